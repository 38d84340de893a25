/- Several texts, joined. -/
import Derived.Test.YtjohcjfmlhihbaaQFairs2
set_option linter.unusedVariables false
set_option linter.unusedSimpArgs false
namespace Go.Proofs.Ytjohcjfmlhihbaa.G
open Go.RowKit Go.Proofs.YtjohcjfmlhihbaaW.PrintWords Go.Proofs.YtjohcjfmlhihbaaW.PrintLast Go.Proofs.YtjohcjfmlhihbaaW.PrintMore
set_option maxHeartbeats 8000000
set_option maxRecDepth 100000
attribute [local go_sem] cond_true cond_false fld23_0 fld23_1 fld45_0 fld45_1 fld109_0 fld109_1 fld94_0 fld94_1 max2_int min2_int max_two min_two max_three min_three max_four min_four   -- for this text's walks alone
mutual
def shares_Whole.l0:Nat → List (S45) → List Int → List Int → List (S45) → List Int → Option (List Int × Int)
 | 0,_,_,_,_,_=>none
 | k + 1,x1,x9,h8,h3,h1=>shares_Whole.l1 k x1 x9 (-1) x1 (x1.length:Int) 0 h8 h3 h1
def shares_Whole.l1:Nat → List (S45) → List Int → Int → List (S45) → Int → Int → List Int → List (S45) → List Int → Option (List Int × Int)
 | 0,_,_,_,_,_,_,_,_,_=>none
 | k + 1,x1,x9,z3,J2,L1,A8,h8,h3,h1=>if A8 < L1 then (if 0 ≤ A8 then (if A8 < (J2.length:Int) then ((contains81.f ((rd_T45 J2 A8).f1) h1).bind fun E9=>(if E9 = true then (shares_Whole.l1 k x1 x9 z3 J2 L1 (wrap64 (A8 + 1)) h8 h3 h1) else (if z3 < 0 then (shares_Whole.l1 k x1 x9 A8 J2 L1 (wrap64 (A8 + 1)) h8 h3 h1) else (if A8 < (x9.length:Int) then (if 0 ≤ z3 then (if z3 < (h3.length:Int) then (if z3 < (x9.length:Int) then (if (wrap64 ((wrap64 ((rd x9 A8) + 1)) * ((rd_T45 h3 z3).f0))) < (wrap64 ((wrap64 ((rd x9 z3) + 1)) * ((rd_T45 J2 A8).f0))) then (shares_Whole.l1 k x1 x9 A8 J2 L1 (wrap64 (A8 + 1)) h8 h3 h1) else (shares_Whole.l1 k x1 x9 z3 J2 L1 (wrap64 (A8 + 1)) h8 h3 h1)) else (none)) else (none)) else (none)) else (none))))) else (none)) else (none)) else (if z3 < 0 then (some (x9,0)) else (if 0 ≤ z3 then (if z3 < (x9.length:Int) then (if z3 < (x1.length:Int) then (shares_Whole.l2 k x1 (x9.set (z3:Int).toNat (wrap64 ((rd x9 z3) + 1))) ((rd_T45 x1 z3).f1) (((rd_T45 x1 z3).f1).length:Int) 0 h8 h3 h1) else (none)) else (none)) else (none)))
def shares_Whole.l2:Nat → List (S45) → List Int → List Int → Int → Int → List Int → List (S45) → List Int → Option (List Int × Int)
 | 0,_,_,_,_,_,_,_,_=>none
 | k + 1,x1,x9,K8,Q7,F8,h8,h3,h1=>if F8 < Q7 then (if 0 ≤ F8 then (if F8 < (K8.length:Int) then (if 0 ≤ (rd K8 F8) then (if (rd K8 F8) < (h1.length:Int) then (shares_Whole.l2 k x1 x9 K8 Q7 (wrap64 (F8 + 1)) h8 h3 (h1.set ((rd K8 F8):Int).toNat (wrap64 ((rd h1 (rd K8 F8)) - 1)))) else (none)) else (none)) else (none)) else (none)) else (shares_Whole.l0 k x1 x9 h8 h3 h1)
end
def shares_Whole.f (k:Nat) (l0:List Int) (l1:List (S45)):Option (List Int × Int):=(shares_newNet.f k l0 l1).bind fun A9=>(if A9 = true then ((slices_Clone_int_int.f l0).bind fun h9=>(if 0 ≤ (l1.length:Int) then (if ((l1.length:Int):Int).toNat ≤ 35184372088832 then (shares_Whole.l0 k l1 (List.replicate ((l1.length:Int):Int).toNat 0) l0 l1 h9) else (none)) else (none))) else (some (([]:List Int),2)))
theorem shares_Whole.mono_l:∀ k,(∀ y0 y1 y2 y3 y4,LeO (shares_Whole.l0 k y0 y1 y2 y3 y4) (shares_Whole.l0 (k + 1) y0 y1 y2 y3 y4)) ∧ (∀ y0 y1 y2 y3 y4 y5 y6 y7 y8,LeO (shares_Whole.l1 k y0 y1 y2 y3 y4 y5 y6 y7 y8) (shares_Whole.l1 (k + 1) y0 y1 y2 y3 y4 y5 y6 y7 y8)) ∧ (∀ y0 y1 y2 y3 y4 y5 y6 y7,LeO (shares_Whole.l2 k y0 y1 y2 y3 y4 y5 y6 y7) (shares_Whole.l2 (k + 1) y0 y1 y2 y3 y4 y5 y6 y7))
 | 0=>⟨fun _ _ _ _ _ r h=>by simp [shares_Whole.l0] at h,fun _ _ _ _ _ _ _ _ _ r h=>by simp [shares_Whole.l1] at h,fun _ _ _ _ _ _ _ _ r h=>by simp [shares_Whole.l2] at h⟩
 | k + 1=>by
  obtain ⟨F0,F1,F2⟩:=shares_Whole.mono_l k
  refine ⟨?_,?_,?_⟩
  ·intro y0 y1 y2 y3 y4
   unfold shares_Whole.l0
   repeat' first
   | (with_reducible exact F0 _ _ _ _ _)
   | (with_reducible exact F1 _ _ _ _ _ _ _ _ _)
   | (with_reducible exact F2 _ _ _ _ _ _ _ _)
   | (with_reducible exact shares_newNet.mono _ _ _)
   | (with_reducible exact LeO.refl _)
   | (with_reducible exact LeO.none _)
   | (with_reducible refine LeO.ite ?_ ?_)
   | (with_reducible refine LeO.bind ?_ (fun _=>?_))
   | exact F0 _ _ _ _ _
   | exact F1 _ _ _ _ _ _ _ _ _
   | exact F2 _ _ _ _ _ _ _ _
   | exact shares_newNet.mono _ _ _
   | exact LeO.none _
   | refine LeO.ite ?_ ?_
   | refine LeO.bind ?_ (fun _=>?_)
  ·intro y0 y1 y2 y3 y4 y5 y6 y7 y8
   unfold shares_Whole.l1
   repeat' first
   | (with_reducible exact F0 _ _ _ _ _)
   | (with_reducible exact F1 _ _ _ _ _ _ _ _ _)
   | (with_reducible exact F2 _ _ _ _ _ _ _ _)
   | (with_reducible exact shares_newNet.mono _ _ _)
   | (with_reducible exact LeO.refl _)
   | (with_reducible exact LeO.none _)
   | (with_reducible refine LeO.ite ?_ ?_)
   | (with_reducible refine LeO.bind ?_ (fun _=>?_))
   | exact F0 _ _ _ _ _
   | exact F1 _ _ _ _ _ _ _ _ _
   | exact F2 _ _ _ _ _ _ _ _
   | exact shares_newNet.mono _ _ _
   | exact LeO.none _
   | refine LeO.ite ?_ ?_
   | refine LeO.bind ?_ (fun _=>?_)
  intro y0 y1 y2 y3 y4 y5 y6 y7
  unfold shares_Whole.l2
  repeat' first
  | (with_reducible exact F0 _ _ _ _ _)
  | (with_reducible exact F1 _ _ _ _ _ _ _ _ _)
  | (with_reducible exact F2 _ _ _ _ _ _ _ _)
  | (with_reducible exact shares_newNet.mono _ _ _)
  | (with_reducible exact LeO.refl _)
  | (with_reducible exact LeO.none _)
  | (with_reducible refine LeO.ite ?_ ?_)
  | (with_reducible refine LeO.bind ?_ (fun _=>?_))
  | exact F0 _ _ _ _ _
  | exact F1 _ _ _ _ _ _ _ _ _
  | exact F2 _ _ _ _ _ _ _ _
  | exact shares_newNet.mono _ _ _
  | exact LeO.none _
  | refine LeO.ite ?_ ?_
  | refine LeO.bind ?_ (fun _=>?_)
theorem shares_Whole.mono:∀ a0 a1 k,LeO (shares_Whole.f k a0 a1) (shares_Whole.f (k + 1) a0 a1):=by
 intro a0 a1 k
 obtain ⟨F0,F1,F2⟩:=shares_Whole.mono_l k
 unfold shares_Whole.f
 repeat' first
   | (with_reducible exact F0 _ _ _ _ _)
   | (with_reducible exact F1 _ _ _ _ _ _ _ _ _)
   | (with_reducible exact F2 _ _ _ _ _ _ _ _)
   | (with_reducible exact shares_newNet.mono _ _ _)
   | (with_reducible exact LeO.refl _)
   | (with_reducible exact LeO.none _)
   | (with_reducible refine LeO.ite ?_ ?_)
   | (with_reducible refine LeO.bind ?_ (fun _=>?_))
   | exact F0 _ _ _ _ _
   | exact F1 _ _ _ _ _ _ _ _ _
   | exact F2 _ _ _ _ _ _ _ _
   | exact shares_newNet.mono _ _ _
   | exact LeO.none _
   | refine LeO.ite ?_ ?_
   | refine LeO.bind ?_ (fun _=>?_)
theorem shares_Whole.calls (k:Nat) (A0:Option Addr) (c0:Nat) (l0:List Int) (A1:Option Addr) (c1:Nat) (l1:List (S45)) (r1:List Int) (r2:Int) (w:World) (Q8:Kd.C (Kd.int .i64) w A0 l0.length l0) (Q9:l0.length ≤ c0) (R0:Kd.C k45 w A1 l1.length l1) (R1:l1.length ≤ c1) (h:shares_Whole.f k l0 l1 = some (r1,r2)) :
  Calls Try.prog 44 #[.slice A0 l0.length c0,.slice A1 l1.length c1] w fun e w'=>∃ R2:Value,e = .returned (.tuple #[R2,.int .i64 r2]) ∧ Kd.R (Kd.int .i64) 3 w' w.heap.size (fun _=>True) R2 r1 ∧ Below w.heap.size w w':=by
 have R3:=Try.underlying109
 have T0:=Try.underlying45
 have F3:=A_ Q8
 have F4:=A_ Q9
 clear Q8 Q9
 have p1:=A_ R0
 have K9:=A_ R1
 clear R0 R1
 have HB:=A_ (Below.refl w.heap.size w)
 have H:((shares_newNet.f k l0 l1).bind fun A9=>(if A9 = true then ((slices_Clone_int_int.f l0).bind fun h9=>(if 0 ≤ (l1.length:Int) then (if ((l1.length:Int):Int).toNat ≤ 35184372088832 then (shares_Whole.l0 k l1 (List.replicate ((l1.length:Int):Int).toNat 0) l0 l1 h9) else (none)) else (none))) else (some (([]:List Int),2)))) = some (r1,r2):=h
 clear h
 replace H:=Option.bind_eq_some_iff.mp H
 obtain ⟨A9,R4,H⟩:=H
 replace H:(if A9 = true then ((slices_Clone_int_int.f l0).bind fun h9=>(if 0 ≤ (l1.length:Int) then (if ((l1.length:Int):Int).toNat ≤ 35184372088832 then (shares_Whole.l0 k l1 (List.replicate ((l1.length:Int):Int).toNat 0) l0 l1 h9) else (none)) else (none))) else (some (([]:List Int),2))) = some (r1,r2):=H
 have A3:=A_ R4
 clear R4
 by_cases c4:A9 = true
 case neg =>
  replace c4:=Bool.eq_false_iff.mpr c4
  subst c4
  have H1:(some (([]:List Int),2)) = some (r1,r2):=by rw [if_neg (show ¬ (false = true) by decide)] at H;exact H
  clear H
  have H:=H1
  clear H1
  simp only [Option.some.injEq,Prod.mk.injEq] at H
  obtain ⟨rfl,rfl⟩:=H
  go_enter Try.func44,Try.ntmps44
  go_wp2_with (first | (go_at_call 70;(with_reducible refine (shares_newNet.calls k _ _ l0 _ _ l1 false _ ?side1 ?side2 ?side3 ?side4 A3.out).mono ?_);(case side1=>exact kc_ F3.out);(case side2=>exact F4.out);(case side3=>exact kc_ p1.out);(case side4=>exact K9.out);rintro e R5 ⟨rfl,hb⟩;replace HB:=bB HB hb;(try clear hb)) | ((with_reducible refine gate_dst (N:=6) rfl ?_);refine box_event ?hg (N:=6) ?hd (cs:=#[.slice none 0 0,.slice none 0 0]) (t:=109) ?hr ?_;(case hd=>rfl);(case hg=>rfl);(case hr=>first | (go_simp;done) | (go_simp;rfl));intro n7 hg F9 hbox hb;have j5:=A_ hbox;have x3:=gw hg HB;have C2:=x3;replace HB:=bB HB hb;clear hb hbox hg;have z5:F9.cell? ⟨n7,0,none⟩ = some (.slice none 0 0):=cz j5 0;have z6:F9.cell? ⟨n7,1,none⟩ = some (.slice none 0 0):=cz j5 1;have z7:=blk_frozen j5.out 0;have z8:=blk_frozen j5.out 1))
  repeat (go_quiet (first | (go_at_call 70;(with_reducible refine (shares_newNet.calls k _ _ l0 _ _ l1 false _ ?side1 ?side2 ?side3 ?side4 A3.out).mono ?_);(case side1=>exact kc_ F3.out);(case side2=>exact F4.out);(case side3=>exact kc_ p1.out);(case side4=>exact K9.out);rintro e R5 ⟨rfl,hb⟩;replace HB:=bB HB hb;(try clear hb)) | ((with_reducible refine gate_dst (N:=6) rfl ?_);refine box_event ?hg (N:=6) ?hd (cs:=#[.slice none 0 0,.slice none 0 0]) (t:=109) ?hr ?_;(case hd=>rfl);(case hg=>rfl);(case hr=>first | (go_simp;done) | (go_simp;rfl));intro n7 hg F9 hbox hb;have j5:=A_ hbox;have x3:=gw hg HB;have C2:=x3;replace HB:=bB HB hb;clear hb hbox hg;have z5:F9.cell? ⟨n7,0,none⟩ = some (.slice none 0 0):=cz j5 0;have z6:F9.cell? ⟨n7,1,none⟩ = some (.slice none 0 0):=cz j5 1;have z7:=blk_frozen j5.out 0;have z8:=blk_frozen j5.out 1));try go_wp2_with (first | (go_at_call 70;(with_reducible refine (shares_newNet.calls k _ _ l0 _ _ l1 false _ ?side1 ?side2 ?side3 ?side4 A3.out).mono ?_);(case side1=>exact kc_ F3.out);(case side2=>exact F4.out);(case side3=>exact kc_ p1.out);(case side4=>exact K9.out);rintro e R5 ⟨rfl,hb⟩;replace HB:=bB HB hb;(try clear hb)) | ((with_reducible refine gate_dst (N:=6) rfl ?_);refine box_event ?hg (N:=6) ?hd (cs:=#[.slice none 0 0,.slice none 0 0]) (t:=109) ?hr ?_;(case hd=>rfl);(case hg=>rfl);(case hr=>first | (go_simp;done) | (go_simp;rfl));intro n7 hg F9 hbox hb;have j5:=A_ hbox;have x3:=gw hg HB;have C2:=x3;replace HB:=bB HB hb;clear hb hbox hg;have z5:F9.cell? ⟨n7,0,none⟩ = some (.slice none 0 0):=cz j5 0;have z6:F9.cell? ⟨n7,1,none⟩ = some (.slice none 0 0):=cz j5 1;have z7:=blk_frozen j5.out 0;have z8:=blk_frozen j5.out 1)))
  go_ret2
  exact ⟨_,by first | rfl | (simp [errW_none,errW_some] <;> rfl) | (simp [*,errW_none,errW_some] <;> rfl),by first | exact Kd.R_nil _ _ _ _ _ | exact Kd.N_nil _ _ _ _ _ | exact Kd.V_nil _ _ _ _ _ | exact Kd.Q_nil _ _ _ _ _ | exact Kd.S_nil _ _ _ _ _,by repeat (first | (with_reducible first | exact HB.out | apply below_alloc | apply pw_below_drewN | apply below_drew1 | refine below_set ?_ C2.out) | exact HB.out)⟩
 subst c4
 have H1:((slices_Clone_int_int.f l0).bind fun h9=>(if 0 ≤ (l1.length:Int) then (if ((l1.length:Int):Int).toNat ≤ 35184372088832 then (shares_Whole.l0 k l1 (List.replicate ((l1.length:Int):Int).toNat 0) l0 l1 h9) else (none)) else (none))) = some (r1,r2):=by rw [if_pos rfl] at H;exact H
 clear H
 have H:=H1
 clear H1
 replace H:=Option.bind_eq_some_iff.mp H
 obtain ⟨h9,R6,H⟩:=H
 replace H:(if 0 ≤ (l1.length:Int) then (if ((l1.length:Int):Int).toNat ≤ 35184372088832 then (shares_Whole.l0 k l1 (List.replicate ((l1.length:Int):Int).toNat 0) l0 l1 h9) else (none)) else (none)) = some (r1,r2):=H
 have A5:=A_ R6
 clear R6
 by_cases c6:0 ≤ (l1.length:Int)
 case neg =>
  rw [if_neg c6] at H
  exact absurd H (by simp)
 rw [if_pos c6] at H
 have J3:=eq_true c6
 have J4:decide (0 ≤ (l1.length:Int)) = true:=decide_eq_true c6
 clear c6
 by_cases c7:((l1.length:Int):Int).toNat ≤ 35184372088832
 case neg =>
  rw [if_neg c7] at H
  exact absurd H (by simp)
 rw [if_pos c7] at H
 have J5:=eq_true c7
 have J6:decide (((l1.length:Int):Int).toNat ≤ 35184372088832) = true:=decide_eq_true c7
 clear c7
 obtain ⟨L2,x4⟩:∃ y_:List Int,y_ = (List.replicate ((l1.length:Int):Int).toNat 0):=⟨_,rfl⟩
 replace H:(shares_Whole.l0 k l1 L2 l0 l1 h9) = some (r1,r2):=by first | (rw [x4];with_reducible exact H) | (have C3:=(Option.bind_some _ _).symm.trans H;rw [x4];with_reducible exact C3) | (have C3:=(Option.bind_some _ _).symm.trans H;with_reducible exact C3) | with_reducible exact H | (rw [x4];exact H) | exact H
 have o9:=A_ x4
 clear x4
 have H':=A_ H
 clear H
 go_enter Try.func44,Try.ntmps44
 go_wp2_with (first | (go_at_call 70;(with_reducible refine (shares_newNet.calls k _ _ l0 _ _ l1 true _ ?side1 ?side2 ?side3 ?side4 A3.out).mono ?_);(case side1=>exact kc_ F3.out);(case side2=>exact F4.out);(case side3=>exact kc_ p1.out);(case side4=>exact K9.out);rintro e w8 ⟨rfl,hb⟩;replace HB:=bB HB hb;(try clear hb)) | ((with_reducible refine gate_dst (N:=6) rfl ?_);refine box_event ?hg (N:=6) ?hd (cs:=#[.slice none 0 0,.slice none 0 0]) (t:=109) ?hr ?_;(case hd=>rfl);(case hg=>rfl);(case hr=>first | (go_simp;done) | (go_simp;rfl));intro d9 hg w9 hbox hb;have b2:=A_ hbox;have x5:=gw hg HB;have l7:=x5;replace HB:=bB HB hb;clear hb hbox hg;have m7:w9.cell? ⟨d9,0,none⟩ = some (.slice none 0 0):=cz b2 0;have m8:w9.cell? ⟨d9,1,none⟩ = some (.slice none 0 0):=cz b2 1;have m9:=blk_frozen b2.out 0;have n0:=blk_frozen b2.out 1) | (go_at_call 79;(with_reducible refine (slices_Clone_int_int.calls _ _ l0 h9 _ ?side1 ?side2 A5.out).mono ?_);(case side1=>exact Kd.C_below F3.out (bl HB));(case side2=>exact F4.out);rintro e R7 ⟨L3,rfl,G0,hb⟩;have h2:=A_ (Kd.R_lower G0 (below_size (bl HB)));replace b2:=A_ (blk_below (g:=d9) (o:=.cells #[.slice A0 l0.length c0,.slice A1 l1.length c1] 109 (0,0)) (by (with_reducible repeat (first | refine blk_drewN ?_ _ | refine blk_drew ?_ | refine blk_alloc ?_ _));refine blk_put (cs:=#[.slice A0 l0.length c0,.slice none 0 0]) ?_ 1 _ rfl;(with_reducible repeat (first | refine blk_drewN ?_ _ | refine blk_drew ?_ | refine blk_alloc ?_ _));refine blk_put (cs:=#[.slice none 0 0,.slice none 0 0]) ?_ 0 _ rfl;(with_reducible repeat (first | refine blk_drewN ?_ _ | refine blk_drew ?_ | refine blk_alloc ?_ _));exact b2.out) hb);replace HB:=bB HB hb;(try clear hb);(try clear G0)) | ((with_reducible refine gate_dst (N:=8) rfl ?_);refine box_event ?hg (N:=8) ?hd (cs:=#[.slice none 0 0]) (t:=28) ?hr ?_;(case hd=>rfl);(case hg=>rfl);(case hr=>first | (go_simp;done) | (go_simp;rfl));intro d4 hg L4 hbox hb;have b3:=A_ hbox;have x6:=gw hg HB;have l8:=x6;have d8:=nl hg b2;have e1:=ng hg b2;replace h2:=rB h2 hb;replace b2:=kB b2 hb;replace HB:=bB HB hb;clear hb hbox hg;obtain ⟨n8,n9,C4⟩:=Kd.R_slice h2.out;subst C4;have G1:=e1.out;have G2:=d8.out;have n1:L4.cell? ⟨d4,0,none⟩ = some (.slice none 0 0):=cz b3 0;have n2:=blk_frozen b3.out 0) | ((with_reducible refine gate_dst (N:=27) rfl ?_);refine Kd.R_make (Kd.int .i64) _ 3 rfl (N:=27) rfl 28 _ _ rfl (l1.length:Int) rfl rfl Try.underlying28 (.int .i64 0) 8 info3 rfl (by decide) (by omega) 0 (ok:=fun _=>True) (okp:=fun _=>True) rfl (fun _ hk=>hk) trivial oa_ (Nat.le_trans (Nat.mul_le_mul_right _ (oa_:(l1.length:Int).toNat ≤ 35184372088832)) (by omega)) (Below.refl _ _) (Nat.le_refl _) ?_;intro l9 R8 j9 hb hg_ hnew_;clear hg_ hnew_;(first | rw [← o9.out] at j9 | (simp only [Int.reduceToNat] at j9;rw [← o9.out] at j9));have C5:=A_ (Kd.R_lower (Kd.R_new' j9 (Kd.R_lt (by (with_reducible repeat (first | apply Kd.R_alloc | apply Kd.R_drewN | apply Kd.R_drew));exact (Kd.R_mono (Kd.R_far (p:=⟨d4,0,none⟩) (Kd.R_types h2.out b3.out (by decide)) (fun _ hk=>hk.2) (.slice n8 h9.length n9)) (fun _ h_=>h_.1))))) (below_size (bl HB)));replace h2:=A_ (Kd.R_elder' (by (with_reducible repeat (first | apply Kd.R_alloc | apply Kd.R_drewN | apply Kd.R_drew));exact (Kd.R_mono (Kd.R_far (p:=⟨d4,0,none⟩) (Kd.R_types h2.out b3.out (by decide)) (fun _ hk=>hk.2) (.slice n8 h9.length n9)) (fun _ h_=>h_.1))) (Kd.R_base j9) hb);replace b2:=A_ (blk_below (g:=d9) (o:=.cells #[.slice A0 l0.length c0,.slice A1 l1.length c1] 109 (0,0)) (bf1_ d8 b2) hb);replace b3:=A_ (blk_below (g:=d4) (o:=.cells #[.slice n8 h9.length n9] 28 (0,0)) (by (with_reducible repeat (first | refine blk_drewN ?_ _ | refine blk_drew ?_ | refine blk_alloc ?_ _));refine blk_put (cs:=#[.slice none 0 0]) ?_ 0 _ rfl;(with_reducible repeat (first | refine blk_drewN ?_ _ | refine blk_drew ?_ | refine blk_alloc ?_ _));exact b3.out) hb);replace HB:=bB HB hb;clear hb j9))
 repeat (go_quiet (first | (go_at_call 70;(with_reducible refine (shares_newNet.calls k _ _ l0 _ _ l1 true _ ?side1 ?side2 ?side3 ?side4 A3.out).mono ?_);(case side1=>exact kc_ F3.out);(case side2=>exact F4.out);(case side3=>exact kc_ p1.out);(case side4=>exact K9.out);rintro e w8 ⟨rfl,hb⟩;replace HB:=bB HB hb;(try clear hb)) | ((with_reducible refine gate_dst (N:=6) rfl ?_);refine box_event ?hg (N:=6) ?hd (cs:=#[.slice none 0 0,.slice none 0 0]) (t:=109) ?hr ?_;(case hd=>rfl);(case hg=>rfl);(case hr=>first | (go_simp;done) | (go_simp;rfl));intro d9 hg w9 hbox hb;have b2:=A_ hbox;have x5:=gw hg HB;have l7:=x5;replace HB:=bB HB hb;clear hb hbox hg;have m7:w9.cell? ⟨d9,0,none⟩ = some (.slice none 0 0):=cz b2 0;have m8:w9.cell? ⟨d9,1,none⟩ = some (.slice none 0 0):=cz b2 1;have m9:=blk_frozen b2.out 0;have n0:=blk_frozen b2.out 1) | (go_at_call 79;(with_reducible refine (slices_Clone_int_int.calls _ _ l0 h9 _ ?side1 ?side2 A5.out).mono ?_);(case side1=>exact Kd.C_below F3.out (bl HB));(case side2=>exact F4.out);rintro e R7 ⟨L3,rfl,G0,hb⟩;have h2:=A_ (Kd.R_lower G0 (below_size (bl HB)));replace b2:=A_ (blk_below (g:=d9) (o:=.cells #[.slice A0 l0.length c0,.slice A1 l1.length c1] 109 (0,0)) (by (with_reducible repeat (first | refine blk_drewN ?_ _ | refine blk_drew ?_ | refine blk_alloc ?_ _));refine blk_put (cs:=#[.slice A0 l0.length c0,.slice none 0 0]) ?_ 1 _ rfl;(with_reducible repeat (first | refine blk_drewN ?_ _ | refine blk_drew ?_ | refine blk_alloc ?_ _));refine blk_put (cs:=#[.slice none 0 0,.slice none 0 0]) ?_ 0 _ rfl;(with_reducible repeat (first | refine blk_drewN ?_ _ | refine blk_drew ?_ | refine blk_alloc ?_ _));exact b2.out) hb);replace HB:=bB HB hb;(try clear hb);(try clear G0)) | ((with_reducible refine gate_dst (N:=8) rfl ?_);refine box_event ?hg (N:=8) ?hd (cs:=#[.slice none 0 0]) (t:=28) ?hr ?_;(case hd=>rfl);(case hg=>rfl);(case hr=>first | (go_simp;done) | (go_simp;rfl));intro d4 hg L4 hbox hb;have b3:=A_ hbox;have x6:=gw hg HB;have l8:=x6;have d8:=nl hg b2;have e1:=ng hg b2;replace h2:=rB h2 hb;replace b2:=kB b2 hb;replace HB:=bB HB hb;clear hb hbox hg;obtain ⟨n8,n9,C4⟩:=Kd.R_slice h2.out;subst C4;have G1:=e1.out;have G2:=d8.out;have n1:L4.cell? ⟨d4,0,none⟩ = some (.slice none 0 0):=cz b3 0;have n2:=blk_frozen b3.out 0) | ((with_reducible refine gate_dst (N:=27) rfl ?_);refine Kd.R_make (Kd.int .i64) _ 3 rfl (N:=27) rfl 28 _ _ rfl (l1.length:Int) rfl rfl Try.underlying28 (.int .i64 0) 8 info3 rfl (by decide) (by omega) 0 (ok:=fun _=>True) (okp:=fun _=>True) rfl (fun _ hk=>hk) trivial oa_ (Nat.le_trans (Nat.mul_le_mul_right _ (oa_:(l1.length:Int).toNat ≤ 35184372088832)) (by omega)) (Below.refl _ _) (Nat.le_refl _) ?_;intro l9 R8 j9 hb hg_ hnew_;clear hg_ hnew_;(first | rw [← o9.out] at j9 | (simp only [Int.reduceToNat] at j9;rw [← o9.out] at j9));have C5:=A_ (Kd.R_lower (Kd.R_new' j9 (Kd.R_lt (by (with_reducible repeat (first | apply Kd.R_alloc | apply Kd.R_drewN | apply Kd.R_drew));exact (Kd.R_mono (Kd.R_far (p:=⟨d4,0,none⟩) (Kd.R_types h2.out b3.out (by decide)) (fun _ hk=>hk.2) (.slice n8 h9.length n9)) (fun _ h_=>h_.1))))) (below_size (bl HB)));replace h2:=A_ (Kd.R_elder' (by (with_reducible repeat (first | apply Kd.R_alloc | apply Kd.R_drewN | apply Kd.R_drew));exact (Kd.R_mono (Kd.R_far (p:=⟨d4,0,none⟩) (Kd.R_types h2.out b3.out (by decide)) (fun _ hk=>hk.2) (.slice n8 h9.length n9)) (fun _ h_=>h_.1))) (Kd.R_base j9) hb);replace b2:=A_ (blk_below (g:=d9) (o:=.cells #[.slice A0 l0.length c0,.slice A1 l1.length c1] 109 (0,0)) (bf1_ d8 b2) hb);replace b3:=A_ (blk_below (g:=d4) (o:=.cells #[.slice n8 h9.length n9] 28 (0,0)) (by (with_reducible repeat (first | refine blk_drewN ?_ _ | refine blk_drew ?_ | refine blk_alloc ?_ _));refine blk_put (cs:=#[.slice none 0 0]) ?_ 0 _ rfl;(with_reducible repeat (first | refine blk_drewN ?_ _ | refine blk_drew ?_ | refine blk_alloc ?_ _));exact b3.out) hb);replace HB:=bB HB hb;clear hb j9));try go_wp2_with (first | (go_at_call 70;(with_reducible refine (shares_newNet.calls k _ _ l0 _ _ l1 true _ ?side1 ?side2 ?side3 ?side4 A3.out).mono ?_);(case side1=>exact kc_ F3.out);(case side2=>exact F4.out);(case side3=>exact kc_ p1.out);(case side4=>exact K9.out);rintro e w8 ⟨rfl,hb⟩;replace HB:=bB HB hb;(try clear hb)) | ((with_reducible refine gate_dst (N:=6) rfl ?_);refine box_event ?hg (N:=6) ?hd (cs:=#[.slice none 0 0,.slice none 0 0]) (t:=109) ?hr ?_;(case hd=>rfl);(case hg=>rfl);(case hr=>first | (go_simp;done) | (go_simp;rfl));intro d9 hg w9 hbox hb;have b2:=A_ hbox;have x5:=gw hg HB;have l7:=x5;replace HB:=bB HB hb;clear hb hbox hg;have m7:w9.cell? ⟨d9,0,none⟩ = some (.slice none 0 0):=cz b2 0;have m8:w9.cell? ⟨d9,1,none⟩ = some (.slice none 0 0):=cz b2 1;have m9:=blk_frozen b2.out 0;have n0:=blk_frozen b2.out 1) | (go_at_call 79;(with_reducible refine (slices_Clone_int_int.calls _ _ l0 h9 _ ?side1 ?side2 A5.out).mono ?_);(case side1=>exact Kd.C_below F3.out (bl HB));(case side2=>exact F4.out);rintro e R7 ⟨L3,rfl,G0,hb⟩;have h2:=A_ (Kd.R_lower G0 (below_size (bl HB)));replace b2:=A_ (blk_below (g:=d9) (o:=.cells #[.slice A0 l0.length c0,.slice A1 l1.length c1] 109 (0,0)) (by (with_reducible repeat (first | refine blk_drewN ?_ _ | refine blk_drew ?_ | refine blk_alloc ?_ _));refine blk_put (cs:=#[.slice A0 l0.length c0,.slice none 0 0]) ?_ 1 _ rfl;(with_reducible repeat (first | refine blk_drewN ?_ _ | refine blk_drew ?_ | refine blk_alloc ?_ _));refine blk_put (cs:=#[.slice none 0 0,.slice none 0 0]) ?_ 0 _ rfl;(with_reducible repeat (first | refine blk_drewN ?_ _ | refine blk_drew ?_ | refine blk_alloc ?_ _));exact b2.out) hb);replace HB:=bB HB hb;(try clear hb);(try clear G0)) | ((with_reducible refine gate_dst (N:=8) rfl ?_);refine box_event ?hg (N:=8) ?hd (cs:=#[.slice none 0 0]) (t:=28) ?hr ?_;(case hd=>rfl);(case hg=>rfl);(case hr=>first | (go_simp;done) | (go_simp;rfl));intro d4 hg L4 hbox hb;have b3:=A_ hbox;have x6:=gw hg HB;have l8:=x6;have d8:=nl hg b2;have e1:=ng hg b2;replace h2:=rB h2 hb;replace b2:=kB b2 hb;replace HB:=bB HB hb;clear hb hbox hg;obtain ⟨n8,n9,C4⟩:=Kd.R_slice h2.out;subst C4;have G1:=e1.out;have G2:=d8.out;have n1:L4.cell? ⟨d4,0,none⟩ = some (.slice none 0 0):=cz b3 0;have n2:=blk_frozen b3.out 0) | ((with_reducible refine gate_dst (N:=27) rfl ?_);refine Kd.R_make (Kd.int .i64) _ 3 rfl (N:=27) rfl 28 _ _ rfl (l1.length:Int) rfl rfl Try.underlying28 (.int .i64 0) 8 info3 rfl (by decide) (by omega) 0 (ok:=fun _=>True) (okp:=fun _=>True) rfl (fun _ hk=>hk) trivial oa_ (Nat.le_trans (Nat.mul_le_mul_right _ (oa_:(l1.length:Int).toNat ≤ 35184372088832)) (by omega)) (Below.refl _ _) (Nat.le_refl _) ?_;intro l9 R8 j9 hb hg_ hnew_;clear hg_ hnew_;(first | rw [← o9.out] at j9 | (simp only [Int.reduceToNat] at j9;rw [← o9.out] at j9));have C5:=A_ (Kd.R_lower (Kd.R_new' j9 (Kd.R_lt (by (with_reducible repeat (first | apply Kd.R_alloc | apply Kd.R_drewN | apply Kd.R_drew));exact (Kd.R_mono (Kd.R_far (p:=⟨d4,0,none⟩) (Kd.R_types h2.out b3.out (by decide)) (fun _ hk=>hk.2) (.slice n8 h9.length n9)) (fun _ h_=>h_.1))))) (below_size (bl HB)));replace h2:=A_ (Kd.R_elder' (by (with_reducible repeat (first | apply Kd.R_alloc | apply Kd.R_drewN | apply Kd.R_drew));exact (Kd.R_mono (Kd.R_far (p:=⟨d4,0,none⟩) (Kd.R_types h2.out b3.out (by decide)) (fun _ hk=>hk.2) (.slice n8 h9.length n9)) (fun _ h_=>h_.1))) (Kd.R_base j9) hb);replace b2:=A_ (blk_below (g:=d9) (o:=.cells #[.slice A0 l0.length c0,.slice A1 l1.length c1] 109 (0,0)) (bf1_ d8 b2) hb);replace b3:=A_ (blk_below (g:=d4) (o:=.cells #[.slice n8 h9.length n9] 28 (0,0)) (by (with_reducible repeat (first | refine blk_drewN ?_ _ | refine blk_drew ?_ | refine blk_alloc ?_ _));refine blk_put (cs:=#[.slice none 0 0]) ?_ 0 _ rfl;(with_reducible repeat (first | refine blk_drewN ?_ _ | refine blk_drew ?_ | refine blk_alloc ?_ _));exact b3.out) hb);replace HB:=bB HB hb;clear hb j9)))
 go_loopg [] k (fun kq w'=>∃ (e0:List Int) (b8:List Int) (d5:Value),Aside0 (shares_Whole.l0 kq l1 e0 l0 l1 b8 = some (r1,r2)) ∧ Aside0 (kq ≤ k) ∧ Aside0 (Kd.R (Kd.int .i64) 3 w' w.heap.size (fun k_=>some k_ ≠ (d5:Value).ownBlock) l9 e0) ∧ Aside0 (Kd.R (Kd.int .i64) 3 w' w.heap.size (fun k_=>some k_ ≠ (l9:Value).ownBlock) d5 b8) ∧ Aside0 (w'.heap[d9]? = some (.cells #[(.slice A0 l0.length c0),(.slice A1 l1.length c1)] 109 (0,0))) ∧ Aside0 (w'.heap[d4]? = some (.cells #[d5] 28 (0,0))) ∧ Aside0 (Below w.heap.size w w'))
 case atStart=>exact ⟨(L2),(h9),(.slice n8 h9.length n9),H',⟨Nat.le_refl _⟩,⟨by (with_reducible repeat (first | apply Kd.R_alloc | apply Kd.R_drewN | apply Kd.R_drew));exact Kd.R_mono C5.out (fun _ hk=>hk.2)⟩,⟨by (with_reducible repeat (first | apply Kd.R_alloc | apply Kd.R_drewN | apply Kd.R_drew));exact Kd.R_mono h2.out (fun _ hk=>hk.2)⟩,⟨dr_ b2⟩,⟨dr_ b3⟩,⟨by repeat (first | (with_reducible first | exact HB.out | apply below_alloc | apply pw_below_drewN | apply below_drew1 | refine below_set ?_ l7.out | refine below_set ?_ l8.out) | exact HB.out)⟩⟩
 case round =>
  clear H'
  try clear c1
  try clear p2
  try clear c4
  try clear c6
  try clear J3
  try clear J4
  try clear c7
  try clear J5
  try clear J6
  try clear c14
  try clear m7
  try clear m8
  try clear n1
  try clear m9
  try clear n0
  try clear n2
  obtain ⟨e0,b8,d5,HA,B0,d2,b0,b2,b3,HB⟩:=hrel
  cases gk with
  | zero=>exact absurd HA.out (by simp [shares_Whole.l0])
  | succ k1 =>
   have H:=HA.out
   clear HA
   simp only [shares_Whole.l0] at H
   have H':=A_ H
   clear H
   go_wp2
   repeat (go_quiet (fail);try go_wp2)
   go_loopg [10,30] k1 (fun kq U0 U1 w'=>∃ (b5:Int) (b1:Int),U0 = .int .i64 b5 ∧ U1 = .int .i64 b1 ∧ Aside0 (shares_Whole.l1 kq l1 e0 b5 l1 (l1.length:Int) b1 l0 l1 b8 = some (r1,r2)) ∧ Aside0 (kq ≤ k1) ∧ Aside0 (Kd.R (Kd.int .i64) 3 w' w.heap.size (fun k_=>some k_ ≠ (d5:Value).ownBlock) l9 e0) ∧ Aside0 (Kd.R (Kd.int .i64) 3 w' w.heap.size (fun k_=>some k_ ≠ (l9:Value).ownBlock) d5 b8) ∧ Aside0 (w'.heap[d9]? = some (.cells #[(.slice A0 l0.length c0),(.slice A1 l1.length c1)] 109 (0,0))) ∧ Aside0 (w'.heap[d4]? = some (.cells #[d5] 28 (0,0))) ∧ Aside0 (Below w.heap.size w w'))
   case atStart=>exact ⟨((-1)),(0),rf_,rf_,H',⟨Nat.le_refl _⟩,⟨kr_ d2⟩,⟨kr_ b0⟩,⟨dr_ b2⟩,⟨dr_ b3⟩,⟨by repeat (first | (with_reducible first | exact HB.out | apply below_alloc | apply pw_below_drewN | apply below_drew1 | refine below_set ?_ l7.out | refine below_set ?_ l8.out) | exact HB.out)⟩⟩
   case round =>
    clear H'
    try clear c1
    try clear p2
    try clear c4
    try clear c6
    try clear J3
    try clear J4
    try clear c7
    try clear J5
    try clear J6
    try clear c14
    try clear m7
    try clear m8
    try clear n1
    try clear m9
    try clear n0
    try clear n2
    try clear p2
    obtain ⟨b5,b1,rfl,rfl,HA,C0,d2,b0,b2,b3,HB⟩:=hrel
    cases gk with
    | zero=>exact absurd HA.out (by simp [shares_Whole.l1])
    | succ k2 =>
     have H:=HA.out
     clear HA
     simp only [shares_Whole.l1] at H
     by_cases J7:b1 < (l1.length:Int)
     case neg =>
      rw [if_neg J7] at H
      have G3:decide (b1 < (l1.length:Int)) = false:=decide_eq_false J7
      clear J7
      by_cases J8:b5 < 0
      ·rw [if_pos J8] at H
       have G4:decide (b5 < 0) = true:=decide_eq_true J8
       clear J8
       simp only [Option.some.injEq,Prod.mk.injEq] at H
       obtain ⟨rfl,rfl⟩:=H
       go_wp2
       repeat (go_quiet (fail);try go_wp2)
       go_ret2
       exact ⟨_,by first | rfl | (simp [errW_none,errW_some] <;> rfl) | (simp [*,errW_none,errW_some] <;> rfl),by (with_reducible repeat (first | apply Kd.R_alloc | apply Kd.R_drewN | apply Kd.R_drew));exact Kd.R_mono d2.out (fun _ hk=>trivial),by repeat (first | (with_reducible first | exact HB.out | apply below_alloc | apply pw_below_drewN | apply below_drew1 | refine below_set ?_ l7.out | refine below_set ?_ l8.out) | exact HB.out)⟩
      rw [if_neg J8] at H
      have G4:decide (b5 < 0) = false:=decide_eq_false J8
      clear J8
      by_cases L5:0 ≤ b5
      case neg =>
       rw [if_neg L5] at H
       exact absurd H (by simp)
      rw [if_pos L5] at H
      have L6:decide (0 ≤ b5) = true:=decide_eq_true L5
      clear L5
      by_cases L7:b5 < (e0.length:Int)
      case neg =>
       rw [if_neg L7] at H
       exact absurd H (by simp)
      rw [if_pos L7] at H
      have L8:decide (b5 < (e0.length:Int)) = true:=decide_eq_true L7
      clear L7
      obtain ⟨C6,x7⟩:∃ y_:List Int,y_ = (e0.set (b5:Int).toNat (wrap64 ((rd e0 b5) + 1))):=⟨_,rfl⟩
      replace H:(if b5 < (l1.length:Int) then (shares_Whole.l2 k2 l1 C6 ((rd_T45 l1 b5).f1) (((rd_T45 l1 b5).f1).length:Int) 0 l0 l1 b8) else (none)) = some (r1,r2):=by first | (rw [x7];with_reducible exact H) | (have C3:=(Option.bind_some _ _).symm.trans H;rw [x7];with_reducible exact C3) | (have C3:=(Option.bind_some _ _).symm.trans H;with_reducible exact C3) | with_reducible exact H | (rw [x7];exact H) | exact H
      have C7:=A_ x7
      clear x7
      by_cases L9:b5 < (l1.length:Int)
      case neg =>
       rw [if_neg L9] at H
       exact absurd H (by simp)
      rw [if_pos L9] at H
      have M0:decide (b5 < (l1.length:Int)) = true:=decide_eq_true L9
      clear L9
      have H':=A_ H
      clear H
      obtain ⟨U2,n3,P5⟩:=Kd.R_slice d2.out
      subst P5
      have F5:0 ≤ (b5:Int):=oa_
      have F6:b5 < (e0.length:Int):=oa_
      obtain ⟨R9,P6,z9⟩:=Kd.at_int (Kd.R_reads' d2.out).2.2 b5 F5 F6
      cases P6
      replace F5:=eq_true F5
      replace F6:=eq_true F6
      have M1:0 ≤ (b5:Int):=oa_
      have M2:(b5:Int) < ((e0.length:Int):Int):=oa_
      obtain ⟨l5,U3,M3,M4,P7,U4,M5⟩:=Kd.R_form d2.out (by omega)
      (first | cases M3 | (injection M3 with ea_ en_ ec_;(first | subst ea_ | (injection ea_ with ea_;subst ea_));subst ec_;clear en_))
      have J9:=A_ M4
      have U5:=A_ M5
      clear M4 P7 M5
      (first | simp only [add_plain] at z9 | skip)
      obtain ⟨K0,P8⟩:=Kd.R_celln 0 d2.out (b5:Int) M1 M2
      replace M1:=eq_true M1
      replace M2:=eq_true M2
      have o0:=Kd.R_putg d2.out (b5:Int) (wrap64 ((rd e0 b5) + 1))
      go_wp2_with (first | ((with_reducible refine gate_store (t:=3) (p:=74) rfl ?_);(try (rw [drewN_self wr];generalize hq_:World.drewN wr _ = wr;replace d2:=A_ (Kd.R_at hq_ d2.out);replace b0:=A_ (Kd.R_at hq_ b0.out);replace b2:=A_ (blk_at hq_ b2.out);replace b3:=A_ (blk_at hq_ b3.out);replace HB:=A_ (below_at hq_ HB.out);clear hq_;(try (have o0:=Kd.R_putg d2.out (b5:Int) (wrap64 ((rd e0 b5) + 1))))));refine store_event (t:=3) (p:=74) (v:=?vo_w74) (w1:=(wr.setCell ⟨l5,(b5:Int).toNat,none⟩ (.int .i64 (wrap64 ((rd e0 b5) + 1))))) ?hg ?ho ?hn ?hr ?_;(case ho=>rfl);(case hg=>rfl);(case hn=>rfl);(case hr=>first | (go_simp;done) | (go_simp;rfl));intro C8 hw;have hg:wr.grownBy C8 (some l5):=(by rw [hw];exact o0.2);have hp_:Kd.R (Kd.int .i64) 3 C8 w.heap.size (fun k_=>some k_ ≠ (d5:Value).ownBlock) (.slice (some ⟨l5,0,none⟩) e0.length n3) C6:=(by rw [hw,C7.out];exact o0.1);clear o0;replace b0:=A_ (Kd.R_after (v:=(.slice (some ⟨l5,0,none⟩) e0.length n3)) (v1:=(.slice (some ⟨l5,0,none⟩) e0.length n3)) (ok:=(fun _=>True)) (by (with_reducible repeat (first | apply Kd.R_alloc | apply Kd.R_drewN | apply Kd.R_drew));exact Kd.R_mono b0.out (fun _ hk=>⟨trivial,hk⟩)) hg (.inl rfl));replace b2:=A_ (blk_grown (g:=d9) (o:=.cells #[.slice A0 l0.length c0,.slice A1 l1.length c1] 109 (0,0)) (kb b2) hg (Kd.R_ne d2.out b2.out (by decide)));replace b3:=A_ (blk_grown (g:=d4) (o:=.cells #[d5] 28 (0,0)) (kb b3) hg (Kd.R_ne d2.out b3.out (by decide)));replace d2:=A_ hp_;replace HB:=A_ ((by rw [hw];exact below_set (HB.out) J9.out:Below w.heap.size w C8));clear hg hw hp_;have o1:0 ≤ (b5:Int):=oa_;have o2:b5 < (l1.length:Int):=oa_;obtain ⟨p0,C9,D0,D1,i0,i1,j7,j8⟩:=at_T45 p1.out b5 o1 o2;cases D1;replace i0:=cT HB i0;replace i1:=cT HB i1;have p3:=A_ j8;have A2:=A_ j7;clear j8 j7;replace o1:=eq_true o1;replace o2:=eq_true o2))
      repeat (go_quiet (first | ((with_reducible refine gate_store (t:=3) (p:=74) rfl ?_);(try (rw [drewN_self wr];generalize hq_:World.drewN wr _ = wr;replace d2:=A_ (Kd.R_at hq_ d2.out);replace b0:=A_ (Kd.R_at hq_ b0.out);replace b2:=A_ (blk_at hq_ b2.out);replace b3:=A_ (blk_at hq_ b3.out);replace HB:=A_ (below_at hq_ HB.out);clear hq_;(try (have o0:=Kd.R_putg d2.out (b5:Int) (wrap64 ((rd e0 b5) + 1))))));refine store_event (t:=3) (p:=74) (v:=?vo_w74) (w1:=(wr.setCell ⟨l5,(b5:Int).toNat,none⟩ (.int .i64 (wrap64 ((rd e0 b5) + 1))))) ?hg ?ho ?hn ?hr ?_;(case ho=>rfl);(case hg=>rfl);(case hn=>rfl);(case hr=>first | (go_simp;done) | (go_simp;rfl));intro C8 hw;have hg:wr.grownBy C8 (some l5):=(by rw [hw];exact o0.2);have hp_:Kd.R (Kd.int .i64) 3 C8 w.heap.size (fun k_=>some k_ ≠ (d5:Value).ownBlock) (.slice (some ⟨l5,0,none⟩) e0.length n3) C6:=(by rw [hw,C7.out];exact o0.1);clear o0;replace b0:=A_ (Kd.R_after (v:=(.slice (some ⟨l5,0,none⟩) e0.length n3)) (v1:=(.slice (some ⟨l5,0,none⟩) e0.length n3)) (ok:=(fun _=>True)) (by (with_reducible repeat (first | apply Kd.R_alloc | apply Kd.R_drewN | apply Kd.R_drew));exact Kd.R_mono b0.out (fun _ hk=>⟨trivial,hk⟩)) hg (.inl rfl));replace b2:=A_ (blk_grown (g:=d9) (o:=.cells #[.slice A0 l0.length c0,.slice A1 l1.length c1] 109 (0,0)) (kb b2) hg (Kd.R_ne d2.out b2.out (by decide)));replace b3:=A_ (blk_grown (g:=d4) (o:=.cells #[d5] 28 (0,0)) (kb b3) hg (Kd.R_ne d2.out b3.out (by decide)));replace d2:=A_ hp_;replace HB:=A_ ((by rw [hw];exact below_set (HB.out) J9.out:Below w.heap.size w C8));clear hg hw hp_;have o1:0 ≤ (b5:Int):=oa_;have o2:b5 < (l1.length:Int):=oa_;obtain ⟨p0,C9,D0,D1,i0,i1,j7,j8⟩:=at_T45 p1.out b5 o1 o2;cases D1;replace i0:=cT HB i0;replace i1:=cT HB i1;have p3:=A_ j8;have A2:=A_ j7;clear j8 j7;replace o1:=eq_true o1;replace o2:=eq_true o2));try go_wp2_with (first | ((with_reducible refine gate_store (t:=3) (p:=74) rfl ?_);(try (rw [drewN_self wr];generalize hq_:World.drewN wr _ = wr;replace d2:=A_ (Kd.R_at hq_ d2.out);replace b0:=A_ (Kd.R_at hq_ b0.out);replace b2:=A_ (blk_at hq_ b2.out);replace b3:=A_ (blk_at hq_ b3.out);replace HB:=A_ (below_at hq_ HB.out);clear hq_;(try (have o0:=Kd.R_putg d2.out (b5:Int) (wrap64 ((rd e0 b5) + 1))))));refine store_event (t:=3) (p:=74) (v:=?vo_w74) (w1:=(wr.setCell ⟨l5,(b5:Int).toNat,none⟩ (.int .i64 (wrap64 ((rd e0 b5) + 1))))) ?hg ?ho ?hn ?hr ?_;(case ho=>rfl);(case hg=>rfl);(case hn=>rfl);(case hr=>first | (go_simp;done) | (go_simp;rfl));intro C8 hw;have hg:wr.grownBy C8 (some l5):=(by rw [hw];exact o0.2);have hp_:Kd.R (Kd.int .i64) 3 C8 w.heap.size (fun k_=>some k_ ≠ (d5:Value).ownBlock) (.slice (some ⟨l5,0,none⟩) e0.length n3) C6:=(by rw [hw,C7.out];exact o0.1);clear o0;replace b0:=A_ (Kd.R_after (v:=(.slice (some ⟨l5,0,none⟩) e0.length n3)) (v1:=(.slice (some ⟨l5,0,none⟩) e0.length n3)) (ok:=(fun _=>True)) (by (with_reducible repeat (first | apply Kd.R_alloc | apply Kd.R_drewN | apply Kd.R_drew));exact Kd.R_mono b0.out (fun _ hk=>⟨trivial,hk⟩)) hg (.inl rfl));replace b2:=A_ (blk_grown (g:=d9) (o:=.cells #[.slice A0 l0.length c0,.slice A1 l1.length c1] 109 (0,0)) (kb b2) hg (Kd.R_ne d2.out b2.out (by decide)));replace b3:=A_ (blk_grown (g:=d4) (o:=.cells #[d5] 28 (0,0)) (kb b3) hg (Kd.R_ne d2.out b3.out (by decide)));replace d2:=A_ hp_;replace HB:=A_ ((by rw [hw];exact below_set (HB.out) J9.out:Below w.heap.size w C8));clear hg hw hp_;have o1:0 ≤ (b5:Int):=oa_;have o2:b5 < (l1.length:Int):=oa_;obtain ⟨p0,C9,D0,D1,i0,i1,j7,j8⟩:=at_T45 p1.out b5 o1 o2;cases D1;replace i0:=cT HB i0;replace i1:=cT HB i1;have p3:=A_ j8;have A2:=A_ j7;clear j8 j7;replace o1:=eq_true o1;replace o2:=eq_true o2)))
      go_loopg [81] k2 (fun kq U6 w'=>∃ (p4:List Int) (e2:Int) (d3:List Int) (d5:Value),U6 = .int .i64 e2 ∧ Aside0 (shares_Whole.l2 kq l1 p4 ((rd_T45 l1 b5).f1) (((rd_T45 l1 b5).f1).length:Int) e2 l0 l1 d3 = some (r1,r2)) ∧ Aside0 (kq ≤ k2) ∧ Aside0 (Kd.R (Kd.int .i64) 3 w' w.heap.size (fun k_=>some k_ ≠ (d5:Value).ownBlock) (.slice (some ⟨l5,0,none⟩) e0.length n3) p4) ∧ Aside0 (Kd.R (Kd.int .i64) 3 w' w.heap.size (fun k_=>some k_ ≠ ((.slice (some ⟨l5,0,none⟩) e0.length n3):Value).ownBlock) d5 d3) ∧ Aside0 (w'.heap[d9]? = some (.cells #[(.slice A0 l0.length c0),(.slice (some p0) l1.length c1)] 109 (0,0))) ∧ Aside0 (w'.heap[d4]? = some (.cells #[d5] 28 (0,0))) ∧ Aside0 (Below w.heap.size w w'))
      case atStart=>exact ⟨(C6),(0),(b8),(d5),rf_,H',⟨Nat.le_refl _⟩,⟨kr_ d2⟩,⟨by (with_reducible repeat (first | apply Kd.R_alloc | apply Kd.R_drewN | apply Kd.R_drew));exact Kd.R_mono b0.out (fun _ hk=>hk.2)⟩,⟨dr_ b2⟩,⟨dr_ b3⟩,⟨by repeat (first | (with_reducible first | exact HB.out | apply below_alloc | apply pw_below_drewN | apply below_drew1 | refine below_set ?_ l7.out | refine below_set ?_ l8.out) | exact HB.out)⟩⟩
      case round =>
       clear H'
       try clear c1
       try clear c2
       try clear p2
       try clear c3
       try clear c4
       try clear c5
       try clear c6
       try clear J3
       try clear J4
       try clear p6
       try clear c7
       try clear J5
       try clear J6
       try clear p7
       try clear q7
       try clear hx7
       try clear hf7
       try clear c9
       try clear p9
       try clear q9
       try clear hx9
       try clear c14
       try clear J7
       try clear G3
       try clear M6
       try clear M7
       try clear M8
       try clear M9
       try clear N0
       try clear c24
       try clear c25
       try clear c27
       try clear K1
       try clear G5
       try clear c33
       try clear c34
       try clear c36
       try clear N1
       try clear N2
       try clear N3
       try clear N4
       try clear N5
       try clear N6
       try clear N7
       try clear N8
       try clear K2
       try clear G6
       try clear c46
       try clear c47
       try clear c49
       try clear c57
       try clear c58
       try clear c60
       try clear p64
       try clear J8
       try clear G4
       try clear L5
       try clear L6
       try clear L7
       try clear L8
       try clear M1
       try clear M2
       try clear hx70
       try clear hf70
       try clear L9
       try clear M0
       try clear m7
       try clear m8
       try clear n1
       try clear p5
       try clear p8
       try clear q0
       try clear q1
       try clear q2
       try clear q3
       try clear q4
       try clear q5
       try clear q6
       try clear q8
       try clear r0
       try clear r3
       try clear r4
       try clear r5
       try clear r6
       try clear r7
       try clear r8
       try clear r9
       try clear s0
       try clear s1
       try clear m9
       try clear n0
       try clear n2
       try clear s2
       try clear s3
       try clear s4
       try clear s5
       try clear s6
       try clear s7
       try clear s8
       try clear s9
       try clear t0
       try clear t1
       try clear t2
       try clear t3
       try clear t4
       try clear t5
       try clear t6
       try clear t7
       try clear t8
       try clear t9
       try clear x0
       try clear x2
       try clear K0
       try clear h4
       try clear h5
       try clear m3
       try clear e3
       try clear e4
       try clear m4
       try clear z9
       try clear i0
       try clear i1
       try clear p2
       try clear M1
       try clear m5
       try clear i2
       try clear i3
       try clear i4
       try clear F5
       try clear o1
       try clear M2
       try clear m6
       try clear i5
       try clear i6
       try clear i7
       try clear F6
       try clear o2
       obtain ⟨p4,e2,d3,d5,rfl,HA,O8,d2,b0,b2,b3,HB⟩:=hrel
       have i8:=(Kd.R_reads' d2.out).1
       rw [i8] at d2
       (try simp only [i8])
       (try simp only [i8] at b2)
       (try simp only [i8] at b3)
       (try simp only [i8] at b0)
       cases gk with
       | zero=>exact absurd HA.out (by simp [shares_Whole.l2])
       | succ k3 =>
        have H:=HA.out
        clear HA
        simp only [shares_Whole.l2] at H
        by_cases L0:e2 < (((rd_T45 l1 b5).f1).length:Int)
        case neg =>
         rw [if_neg L0] at H
         have N9:decide (e2 < (((rd_T45 l1 b5).f1).length:Int)) = false:=decide_eq_false L0
         clear L0
         have H':=A_ H
         clear H
         go_wp2
         repeat (go_quiet (fail);try go_wp2)
         (try simp only [← i8])
         go_roundg k3
         case measure=>have:=B0.out;have:=C0.out;have:=O8.out;omega
         case rel=>exact ⟨(p4),(d3),(d5),H',⟨by have:=B0.out;have:=C0.out;have:=O8.out;omega⟩,⟨by (try simp only [i8]);(with_reducible repeat (first | apply Kd.R_alloc | apply Kd.R_drewN | apply Kd.R_drew));exact d2.out⟩,⟨by (try simp only [i8]);(with_reducible repeat (first | apply Kd.R_alloc | apply Kd.R_drewN | apply Kd.R_drew));exact b0.out⟩,⟨by (try simp only [i8]);(with_reducible repeat (first | refine blk_drewN ?_ _ | refine blk_drew ?_ | refine blk_alloc ?_ _));exact b2.out⟩,⟨by (try simp only [i8]);(with_reducible repeat (first | refine blk_drewN ?_ _ | refine blk_drew ?_ | refine blk_alloc ?_ _));exact b3.out⟩,⟨by repeat (first | (with_reducible first | exact HB.out | apply below_alloc | apply pw_below_drewN | apply below_drew1 | refine below_set ?_ l7.out | refine below_set ?_ l8.out) | exact HB.out)⟩⟩
        rw [if_pos L0] at H
        have N9:decide (e2 < (((rd_T45 l1 b5).f1).length:Int)) = true:=decide_eq_true L0
        clear L0
        by_cases O9:0 ≤ e2
        case neg =>
         rw [if_neg O9] at H
         exact absurd H (by simp)
        rw [if_pos O9] at H
        have S0:decide (0 ≤ e2) = true:=decide_eq_true O9
        clear O9
        by_cases P0:e2 < (((rd_T45 l1 b5).f1).length:Int)
        case neg =>
         rw [if_neg P0] at H
         exact absurd H (by simp)
        rw [if_pos P0] at H
        have S1:decide (e2 < (((rd_T45 l1 b5).f1).length:Int)) = true:=decide_eq_true P0
        clear P0
        by_cases P1:0 ≤ (rd ((rd_T45 l1 b5).f1) e2)
        case neg =>
         rw [if_neg P1] at H
         exact absurd H (by simp)
        rw [if_pos P1] at H
        have S2:decide (0 ≤ (rd ((rd_T45 l1 b5).f1) e2)) = true:=decide_eq_true P1
        clear P1
        by_cases P2:(rd ((rd_T45 l1 b5).f1) e2) < (d3.length:Int)
        case neg =>
         rw [if_neg P2] at H
         exact absurd H (by simp)
        rw [if_pos P2] at H
        have S3:decide ((rd ((rd_T45 l1 b5).f1) e2) < (d3.length:Int)) = true:=decide_eq_true P2
        clear P2
        obtain ⟨D2,x8⟩:∃ y_:List Int,y_ = (d3.set ((rd ((rd_T45 l1 b5).f1) e2):Int).toNat (wrap64 ((rd d3 (rd ((rd_T45 l1 b5).f1) e2)) - 1))):=⟨_,rfl⟩
        replace H:(shares_Whole.l2 k3 l1 p4 ((rd_T45 l1 b5).f1) (((rd_T45 l1 b5).f1).length:Int) (wrap64 (e2 + 1)) l0 l1 D2) = some (r1,r2):=by first | (rw [x8];with_reducible exact H) | (have C3:=(Option.bind_some _ _).symm.trans H;rw [x8];with_reducible exact C3) | (have C3:=(Option.bind_some _ _).symm.trans H;with_reducible exact C3) | with_reducible exact H | (rw [x8];exact H) | exact H
        have D3:=A_ x8
        clear x8
        have H':=A_ H
        clear H
        have K3:0 ≤ (e2:Int):=oa_
        have K4:e2 < (((rd_T45 l1 b5).f1).length:Int):=oa_
        obtain ⟨S4,P9,A4⟩:=Kd.at_int p3.out e2 K3 K4
        cases P9
        replace A4:=cT HB A4
        replace K3:=eq_true K3
        replace K4:=eq_true K4
        have S5:=e1.out
        have S6:=d8.out
        have P3:wr.cell? ⟨d4,0,none⟩ = some (d5):=cz b3 0
        have P4:=blk_frozen b3.out 0
        obtain ⟨U7,n6,Q0⟩:=Kd.R_slice b0.out
        subst Q0
        have K5:0 ≤ ((rd ((rd_T45 l1 b5).f1) e2):Int):=oa_
        have K6:(rd ((rd_T45 l1 b5).f1) e2) < (d3.length:Int):=oa_
        obtain ⟨S7,Q1,F7⟩:=Kd.at_int (Kd.R_reads' b0.out).2.2 (rd ((rd_T45 l1 b5).f1) e2) K5 K6
        cases Q1
        replace K5:=eq_true K5
        replace K6:=eq_true K6
        have Q2:0 ≤ ((rd ((rd_T45 l1 b5).f1) e2):Int):=oa_
        have Q3:((rd ((rd_T45 l1 b5).f1) e2):Int) < ((d3.length:Int):Int):=oa_
        obtain ⟨l6,U8,O0,O1,Q4,U9,O2⟩:=Kd.R_form b0.out (by omega)
        (first | cases O0 | (injection O0 with ea_ en_ ec_;(first | subst ea_ | (injection ea_ with ea_;subst ea_));subst ec_;clear en_))
        have K7:=A_ O1
        have V0:=A_ O2
        clear O1 Q4 O2
        (first | simp only [add_plain] at F7 | skip)
        obtain ⟨Q5,Q6⟩:=Kd.R_celln 0 b0.out ((rd ((rd_T45 l1 b5).f1) e2):Int) Q2 Q3
        replace Q2:=eq_true Q2
        replace Q3:=eq_true Q3
        have o3:=Kd.R_putg b0.out ((rd ((rd_T45 l1 b5).f1) e2):Int) (wrap64 ((rd d3 (rd ((rd_T45 l1 b5).f1) e2)) - 1))
        go_wp2_with (first | ((with_reducible refine gate_store (t:=3) (p:=90) rfl ?_);(try (rw [drewN_self wr];generalize hq_:World.drewN wr _ = wr;replace d2:=A_ (Kd.R_at hq_ d2.out);replace b0:=A_ (Kd.R_at hq_ b0.out);replace b2:=A_ (blk_at hq_ b2.out);replace b3:=A_ (blk_at hq_ b3.out);replace HB:=A_ (below_at hq_ HB.out);clear hq_;(try (have o3:=Kd.R_putg b0.out ((rd ((rd_T45 l1 b5).f1) e2):Int) (wrap64 ((rd d3 (rd ((rd_T45 l1 b5).f1) e2)) - 1))))));refine store_event (t:=3) (p:=90) (v:=?vo_w85) (w1:=(wr.setCell ⟨l6,((rd ((rd_T45 l1 b5).f1) e2):Int).toNat,none⟩ (.int .i64 (wrap64 ((rd d3 (rd ((rd_T45 l1 b5).f1) e2)) - 1))))) ?hg ?ho ?hn ?hr ?_;(case ho=>rfl);(case hg=>rfl);(case hn=>rfl);(case hr=>first | (go_simp;done) | (go_simp;rfl));intro D4 hw;have hg:wr.grownBy D4 (some l6):=(by rw [hw];exact o3.2);have hp_:Kd.R (Kd.int .i64) 3 D4 w.heap.size (fun k_=>some k_ ≠ (.slice (some ⟨l5,0,none⟩) p4.length n3:Value).ownBlock) (.slice (some ⟨l6,0,none⟩) d3.length n6) D2:=(by rw [hw,D3.out];exact o3.1);clear o3;replace d2:=A_ (Kd.R_after (v:=(.slice (some ⟨l6,0,none⟩) d3.length n6)) (v1:=(.slice (some ⟨l6,0,none⟩) d3.length n6)) (ok:=(fun _=>True)) (by (with_reducible repeat (first | apply Kd.R_alloc | apply Kd.R_drewN | apply Kd.R_drew));exact Kd.R_mono d2.out (fun _ hk=>⟨trivial,hk⟩)) hg (.inl rfl));replace b2:=A_ (blk_grown (g:=d9) (o:=.cells #[.slice A0 l0.length c0,.slice (some p0) l1.length c1] 109 (0,0)) (kb b2) hg (Kd.R_ne b0.out b2.out (by decide)));replace b3:=A_ (blk_grown (g:=d4) (o:=.cells #[.slice (some ⟨l6,0,none⟩) d3.length n6] 28 (0,0)) (kb b3) hg (Kd.R_ne b0.out b3.out (by decide)));replace b0:=A_ hp_;replace HB:=A_ ((by rw [hw];exact below_set (HB.out) K7.out:Below w.heap.size w D4));clear hg hw hp_))
        repeat (go_quiet (first | ((with_reducible refine gate_store (t:=3) (p:=90) rfl ?_);(try (rw [drewN_self wr];generalize hq_:World.drewN wr _ = wr;replace d2:=A_ (Kd.R_at hq_ d2.out);replace b0:=A_ (Kd.R_at hq_ b0.out);replace b2:=A_ (blk_at hq_ b2.out);replace b3:=A_ (blk_at hq_ b3.out);replace HB:=A_ (below_at hq_ HB.out);clear hq_;(try (have o3:=Kd.R_putg b0.out ((rd ((rd_T45 l1 b5).f1) e2):Int) (wrap64 ((rd d3 (rd ((rd_T45 l1 b5).f1) e2)) - 1))))));refine store_event (t:=3) (p:=90) (v:=?vo_w85) (w1:=(wr.setCell ⟨l6,((rd ((rd_T45 l1 b5).f1) e2):Int).toNat,none⟩ (.int .i64 (wrap64 ((rd d3 (rd ((rd_T45 l1 b5).f1) e2)) - 1))))) ?hg ?ho ?hn ?hr ?_;(case ho=>rfl);(case hg=>rfl);(case hn=>rfl);(case hr=>first | (go_simp;done) | (go_simp;rfl));intro D4 hw;have hg:wr.grownBy D4 (some l6):=(by rw [hw];exact o3.2);have hp_:Kd.R (Kd.int .i64) 3 D4 w.heap.size (fun k_=>some k_ ≠ (.slice (some ⟨l5,0,none⟩) p4.length n3:Value).ownBlock) (.slice (some ⟨l6,0,none⟩) d3.length n6) D2:=(by rw [hw,D3.out];exact o3.1);clear o3;replace d2:=A_ (Kd.R_after (v:=(.slice (some ⟨l6,0,none⟩) d3.length n6)) (v1:=(.slice (some ⟨l6,0,none⟩) d3.length n6)) (ok:=(fun _=>True)) (by (with_reducible repeat (first | apply Kd.R_alloc | apply Kd.R_drewN | apply Kd.R_drew));exact Kd.R_mono d2.out (fun _ hk=>⟨trivial,hk⟩)) hg (.inl rfl));replace b2:=A_ (blk_grown (g:=d9) (o:=.cells #[.slice A0 l0.length c0,.slice (some p0) l1.length c1] 109 (0,0)) (kb b2) hg (Kd.R_ne b0.out b2.out (by decide)));replace b3:=A_ (blk_grown (g:=d4) (o:=.cells #[.slice (some ⟨l6,0,none⟩) d3.length n6] 28 (0,0)) (kb b3) hg (Kd.R_ne b0.out b3.out (by decide)));replace b0:=A_ hp_;replace HB:=A_ ((by rw [hw];exact below_set (HB.out) K7.out:Below w.heap.size w D4));clear hg hw hp_));try go_wp2_with (first | ((with_reducible refine gate_store (t:=3) (p:=90) rfl ?_);(try (rw [drewN_self wr];generalize hq_:World.drewN wr _ = wr;replace d2:=A_ (Kd.R_at hq_ d2.out);replace b0:=A_ (Kd.R_at hq_ b0.out);replace b2:=A_ (blk_at hq_ b2.out);replace b3:=A_ (blk_at hq_ b3.out);replace HB:=A_ (below_at hq_ HB.out);clear hq_;(try (have o3:=Kd.R_putg b0.out ((rd ((rd_T45 l1 b5).f1) e2):Int) (wrap64 ((rd d3 (rd ((rd_T45 l1 b5).f1) e2)) - 1))))));refine store_event (t:=3) (p:=90) (v:=?vo_w85) (w1:=(wr.setCell ⟨l6,((rd ((rd_T45 l1 b5).f1) e2):Int).toNat,none⟩ (.int .i64 (wrap64 ((rd d3 (rd ((rd_T45 l1 b5).f1) e2)) - 1))))) ?hg ?ho ?hn ?hr ?_;(case ho=>rfl);(case hg=>rfl);(case hn=>rfl);(case hr=>first | (go_simp;done) | (go_simp;rfl));intro D4 hw;have hg:wr.grownBy D4 (some l6):=(by rw [hw];exact o3.2);have hp_:Kd.R (Kd.int .i64) 3 D4 w.heap.size (fun k_=>some k_ ≠ (.slice (some ⟨l5,0,none⟩) p4.length n3:Value).ownBlock) (.slice (some ⟨l6,0,none⟩) d3.length n6) D2:=(by rw [hw,D3.out];exact o3.1);clear o3;replace d2:=A_ (Kd.R_after (v:=(.slice (some ⟨l6,0,none⟩) d3.length n6)) (v1:=(.slice (some ⟨l6,0,none⟩) d3.length n6)) (ok:=(fun _=>True)) (by (with_reducible repeat (first | apply Kd.R_alloc | apply Kd.R_drewN | apply Kd.R_drew));exact Kd.R_mono d2.out (fun _ hk=>⟨trivial,hk⟩)) hg (.inl rfl));replace b2:=A_ (blk_grown (g:=d9) (o:=.cells #[.slice A0 l0.length c0,.slice (some p0) l1.length c1] 109 (0,0)) (kb b2) hg (Kd.R_ne b0.out b2.out (by decide)));replace b3:=A_ (blk_grown (g:=d4) (o:=.cells #[.slice (some ⟨l6,0,none⟩) d3.length n6] 28 (0,0)) (kb b3) hg (Kd.R_ne b0.out b3.out (by decide)));replace b0:=A_ hp_;replace HB:=A_ ((by rw [hw];exact below_set (HB.out) K7.out:Below w.heap.size w D4));clear hg hw hp_)))
        (try simp only [← i8])
        go_roundg k3
        case measure=>have:=B0.out;have:=C0.out;have:=O8.out;omega
        case rel=>exact ⟨(p4),(wrap64 (e2 + 1)),(D2),(.slice (some ⟨l6,0,none⟩) d3.length n6),rf_,H',⟨by have:=B0.out;have:=C0.out;have:=O8.out;omega⟩,⟨by (try simp only [i8]);(with_reducible repeat (first | apply Kd.R_alloc | apply Kd.R_drewN | apply Kd.R_drew));exact Kd.R_mono d2.out (fun _ hk=>hk.2)⟩,⟨by (try simp only [i8]);(with_reducible repeat (first | apply Kd.R_alloc | apply Kd.R_drewN | apply Kd.R_drew));exact b0.out⟩,⟨by (try simp only [i8]);(with_reducible repeat (first | refine blk_drewN ?_ _ | refine blk_drew ?_ | refine blk_alloc ?_ _));exact b2.out⟩,⟨by (try simp only [i8]);(with_reducible repeat (first | refine blk_drewN ?_ _ | refine blk_drew ?_ | refine blk_alloc ?_ _));exact b3.out⟩,⟨by repeat (first | (with_reducible first | exact HB.out | apply below_alloc | apply pw_below_drewN | apply below_drew1 | refine below_set ?_ l7.out | refine below_set ?_ l8.out) | exact HB.out)⟩⟩
     rw [if_pos J7] at H
     have G3:decide (b1 < (l1.length:Int)) = true:=decide_eq_true J7
     clear J7
     by_cases M6:0 ≤ b1
     case neg =>
      rw [if_neg M6] at H
      exact absurd H (by simp)
     rw [if_pos M6] at H
     have M7:decide (0 ≤ b1) = true:=decide_eq_true M6
     clear M6
     by_cases M8:b1 < (l1.length:Int)
     case neg =>
      rw [if_neg M8] at H
      exact absurd H (by simp)
     rw [if_pos M8] at H
     have M9:decide (b1 < (l1.length:Int)) = true:=decide_eq_true M8
     clear M8
     replace H:=Option.bind_eq_some_iff.mp H
     obtain ⟨E9,O3,H⟩:=H
     replace H:(if E9 = true then (shares_Whole.l1 k2 l1 e0 b5 l1 (l1.length:Int) (wrap64 (b1 + 1)) l0 l1 b8) else (if b5 < 0 then (shares_Whole.l1 k2 l1 e0 b1 l1 (l1.length:Int) (wrap64 (b1 + 1)) l0 l1 b8) else (if b1 < (e0.length:Int) then (if 0 ≤ b5 then (if b5 < (l1.length:Int) then (if b5 < (e0.length:Int) then (if (wrap64 ((wrap64 ((rd e0 b1) + 1)) * ((rd_T45 l1 b5).f0))) < (wrap64 ((wrap64 ((rd e0 b5) + 1)) * ((rd_T45 l1 b1).f0))) then (shares_Whole.l1 k2 l1 e0 b1 l1 (l1.length:Int) (wrap64 (b1 + 1)) l0 l1 b8) else (shares_Whole.l1 k2 l1 e0 b5 l1 (l1.length:Int) (wrap64 (b1 + 1)) l0 l1 b8)) else (none)) else (none)) else (none)) else (none)))) = some (r1,r2):=H
     have C1:=A_ O3
     clear O3
     by_cases N0:E9 = true
     ·subst N0
      have H1:(shares_Whole.l1 k2 l1 e0 b5 l1 (l1.length:Int) (wrap64 (b1 + 1)) l0 l1 b8) = some (r1,r2):=by rw [if_pos rfl] at H;exact H
      clear H
      have H:=H1
      clear H1
      have H':=A_ H
      clear H
      have m5:0 ≤ (b1:Int):=oa_
      have m6:b1 < (l1.length:Int):=oa_
      obtain ⟨e7,d0,d1,z4,h4,h5,h6,h7⟩:=at_T45 p1.out b1 m5 m6
      cases z4
      replace h4:=cT HB h4
      replace h5:=cT HB h5
      have e8:=A_ h7
      have e9:=A_ h6
      clear h7 h6
      replace m5:=eq_true m5
      replace m6:=eq_true m6
      go_wp2_with (first | ((with_reducible refine gate_dst (N:=12) rfl ?_);refine box_event ?hg (N:=12) ?hd (cs:=#[.int .i64 0,.slice none 0 0]) (t:=45) ?hr ?_;(case hd=>rfl);(case hg=>rfl);(case hr=>first | (go_simp;done) | (go_simp;rfl));intro b7 hg D5 hbox hb;have b6:=A_ hbox;have h0:=gw hg HB;have i9:=h0;have b9:=nl hg b2;have d6:=ng hg b2;have b4:=nl hg b3;have d7:=ng hg b3;replace d2:=rB d2 hb;replace b0:=rB b0 hb;replace b2:=kB b2 hb;replace b3:=kB b3 hb;replace HB:=bB HB hb;clear hb hbox hg;have G7:=d6.out;have G8:=b9.out;have G9:=d7.out;have H0:=b4.out;have p5:D5.cell? ⟨b7,0,none⟩ = some (.int .i64 0):=cz b6 0;have p8:D5.cell? ⟨b7,1,none⟩ = some (.slice none 0 0):=cz b6 1;have s2:=blk_frozen b6.out 0;have s3:=blk_frozen b6.out 1;have H2:=e1.out;have H3:=d8.out;have q0:D5.cell? ⟨d4,0,none⟩ = some (d5):=cz b3 0;have s4:=blk_frozen b3.out 0;obtain ⟨D6,y9,D7⟩:=Kd.R_slice b0.out;subst D7) | (go_at_call 80;(with_reducible refine (contains81.calls _ _ ((rd_T45 l1 b1).f1) _ _ b8 true _ d4 (bf2_ b4 b4 b3) ?side1 ?side2 ?side3 ?side4 C1.out).mono ?_);(case side1=>exact Kd.C_below e8.out (bl HB));(case side2=>exact e9.out);(case side3=>refine (Kd.R_reads' (e:=3) (base:=w.heap.size) (ok:=fun k_=>some k_ ≠ (l9:Value).ownBlock) (n:=b8.length) (c:=y9) ?_).2.2;exact (by (with_reducible repeat (first | apply Kd.R_alloc | apply Kd.R_drewN | apply Kd.R_drew));exact (Kd.R_mono (Kd.R_far (p:=⟨b7,1,none⟩) (Kd.R_far (p:=⟨b7,0,none⟩) (Kd.R_types b0.out b6.out (by decide)) (fun _ hk=>hk.2) (.int .i64 ((rd_T45 l1 b1).f0))) (fun _ hk=>hk.2) (.slice d0 ((rd_T45 l1 b1).f1).length d1)) (fun _ h_=>h_.1))));(case side4=>exact (Kd.R_reads' b0.out).2.1);rintro e S8 ⟨rfl,hb⟩;replace d2:=A_ (Kd.R_below (by (with_reducible repeat (first | apply Kd.R_alloc | apply Kd.R_drewN | apply Kd.R_drew));exact (Kd.R_mono (Kd.R_far (p:=⟨b7,1,none⟩) (Kd.R_far (p:=⟨b7,0,none⟩) (Kd.R_types d2.out b6.out (by decide)) (fun _ hk=>hk.2) (.int .i64 ((rd_T45 l1 b1).f0))) (fun _ hk=>hk.2) (.slice d0 ((rd_T45 l1 b1).f1).length d1)) (fun _ h_=>h_.1))) hb);replace b0:=A_ (Kd.R_below (by (with_reducible repeat (first | apply Kd.R_alloc | apply Kd.R_drewN | apply Kd.R_drew));exact (Kd.R_mono (Kd.R_far (p:=⟨b7,1,none⟩) (Kd.R_far (p:=⟨b7,0,none⟩) (Kd.R_types b0.out b6.out (by decide)) (fun _ hk=>hk.2) (.int .i64 ((rd_T45 l1 b1).f0))) (fun _ hk=>hk.2) (.slice d0 ((rd_T45 l1 b1).f1).length d1)) (fun _ h_=>h_.1))) hb);replace b2:=A_ (blk_below (g:=d9) (o:=.cells #[.slice A0 l0.length c0,.slice (some e7) l1.length c1] 109 (0,0)) (bf2_ b9 b9 b2) hb);replace b3:=A_ (blk_below (g:=d4) (o:=.cells #[.slice D6 b8.length y9] 28 (0,0)) (bf2_ b4 b4 b3) hb);replace b6:=A_ (blk_below (g:=b7) (o:=.cells #[.int .i64 ((rd_T45 l1 b1).f0),.slice d0 ((rd_T45 l1 b1).f1).length d1] 45 (0,0)) (by (with_reducible repeat (first | refine blk_drewN ?_ _ | refine blk_drew ?_ | refine blk_alloc ?_ _));refine blk_put (cs:=#[.int .i64 ((rd_T45 l1 b1).f0),.slice none 0 0]) ?_ 1 _ rfl;(with_reducible repeat (first | refine blk_drewN ?_ _ | refine blk_drew ?_ | refine blk_alloc ?_ _));refine blk_put (cs:=#[.int .i64 0,.slice none 0 0]) ?_ 0 _ rfl;(with_reducible repeat (first | refine blk_drewN ?_ _ | refine blk_drew ?_ | refine blk_alloc ?_ _));exact b6.out) hb);replace HB:=bB HB hb;(try clear hb)))
      repeat (go_quiet (first | ((with_reducible refine gate_dst (N:=12) rfl ?_);refine box_event ?hg (N:=12) ?hd (cs:=#[.int .i64 0,.slice none 0 0]) (t:=45) ?hr ?_;(case hd=>rfl);(case hg=>rfl);(case hr=>first | (go_simp;done) | (go_simp;rfl));intro b7 hg D5 hbox hb;have b6:=A_ hbox;have h0:=gw hg HB;have i9:=h0;have b9:=nl hg b2;have d6:=ng hg b2;have b4:=nl hg b3;have d7:=ng hg b3;replace d2:=rB d2 hb;replace b0:=rB b0 hb;replace b2:=kB b2 hb;replace b3:=kB b3 hb;replace HB:=bB HB hb;clear hb hbox hg;have G7:=d6.out;have G8:=b9.out;have G9:=d7.out;have H0:=b4.out;have p5:D5.cell? ⟨b7,0,none⟩ = some (.int .i64 0):=cz b6 0;have p8:D5.cell? ⟨b7,1,none⟩ = some (.slice none 0 0):=cz b6 1;have s2:=blk_frozen b6.out 0;have s3:=blk_frozen b6.out 1;have H2:=e1.out;have H3:=d8.out;have q0:D5.cell? ⟨d4,0,none⟩ = some (d5):=cz b3 0;have s4:=blk_frozen b3.out 0;obtain ⟨D6,y9,D7⟩:=Kd.R_slice b0.out;subst D7) | (go_at_call 80;(with_reducible refine (contains81.calls _ _ ((rd_T45 l1 b1).f1) _ _ b8 true _ d4 (bf2_ b4 b4 b3) ?side1 ?side2 ?side3 ?side4 C1.out).mono ?_);(case side1=>exact Kd.C_below e8.out (bl HB));(case side2=>exact e9.out);(case side3=>refine (Kd.R_reads' (e:=3) (base:=w.heap.size) (ok:=fun k_=>some k_ ≠ (l9:Value).ownBlock) (n:=b8.length) (c:=y9) ?_).2.2;exact (by (with_reducible repeat (first | apply Kd.R_alloc | apply Kd.R_drewN | apply Kd.R_drew));exact (Kd.R_mono (Kd.R_far (p:=⟨b7,1,none⟩) (Kd.R_far (p:=⟨b7,0,none⟩) (Kd.R_types b0.out b6.out (by decide)) (fun _ hk=>hk.2) (.int .i64 ((rd_T45 l1 b1).f0))) (fun _ hk=>hk.2) (.slice d0 ((rd_T45 l1 b1).f1).length d1)) (fun _ h_=>h_.1))));(case side4=>exact (Kd.R_reads' b0.out).2.1);rintro e S8 ⟨rfl,hb⟩;replace d2:=A_ (Kd.R_below (by (with_reducible repeat (first | apply Kd.R_alloc | apply Kd.R_drewN | apply Kd.R_drew));exact (Kd.R_mono (Kd.R_far (p:=⟨b7,1,none⟩) (Kd.R_far (p:=⟨b7,0,none⟩) (Kd.R_types d2.out b6.out (by decide)) (fun _ hk=>hk.2) (.int .i64 ((rd_T45 l1 b1).f0))) (fun _ hk=>hk.2) (.slice d0 ((rd_T45 l1 b1).f1).length d1)) (fun _ h_=>h_.1))) hb);replace b0:=A_ (Kd.R_below (by (with_reducible repeat (first | apply Kd.R_alloc | apply Kd.R_drewN | apply Kd.R_drew));exact (Kd.R_mono (Kd.R_far (p:=⟨b7,1,none⟩) (Kd.R_far (p:=⟨b7,0,none⟩) (Kd.R_types b0.out b6.out (by decide)) (fun _ hk=>hk.2) (.int .i64 ((rd_T45 l1 b1).f0))) (fun _ hk=>hk.2) (.slice d0 ((rd_T45 l1 b1).f1).length d1)) (fun _ h_=>h_.1))) hb);replace b2:=A_ (blk_below (g:=d9) (o:=.cells #[.slice A0 l0.length c0,.slice (some e7) l1.length c1] 109 (0,0)) (bf2_ b9 b9 b2) hb);replace b3:=A_ (blk_below (g:=d4) (o:=.cells #[.slice D6 b8.length y9] 28 (0,0)) (bf2_ b4 b4 b3) hb);replace b6:=A_ (blk_below (g:=b7) (o:=.cells #[.int .i64 ((rd_T45 l1 b1).f0),.slice d0 ((rd_T45 l1 b1).f1).length d1] 45 (0,0)) (by (with_reducible repeat (first | refine blk_drewN ?_ _ | refine blk_drew ?_ | refine blk_alloc ?_ _));refine blk_put (cs:=#[.int .i64 ((rd_T45 l1 b1).f0),.slice none 0 0]) ?_ 1 _ rfl;(with_reducible repeat (first | refine blk_drewN ?_ _ | refine blk_drew ?_ | refine blk_alloc ?_ _));refine blk_put (cs:=#[.int .i64 0,.slice none 0 0]) ?_ 0 _ rfl;(with_reducible repeat (first | refine blk_drewN ?_ _ | refine blk_drew ?_ | refine blk_alloc ?_ _));exact b6.out) hb);replace HB:=bB HB hb;(try clear hb)));try go_wp2_with (first | ((with_reducible refine gate_dst (N:=12) rfl ?_);refine box_event ?hg (N:=12) ?hd (cs:=#[.int .i64 0,.slice none 0 0]) (t:=45) ?hr ?_;(case hd=>rfl);(case hg=>rfl);(case hr=>first | (go_simp;done) | (go_simp;rfl));intro b7 hg D5 hbox hb;have b6:=A_ hbox;have h0:=gw hg HB;have i9:=h0;have b9:=nl hg b2;have d6:=ng hg b2;have b4:=nl hg b3;have d7:=ng hg b3;replace d2:=rB d2 hb;replace b0:=rB b0 hb;replace b2:=kB b2 hb;replace b3:=kB b3 hb;replace HB:=bB HB hb;clear hb hbox hg;have G7:=d6.out;have G8:=b9.out;have G9:=d7.out;have H0:=b4.out;have p5:D5.cell? ⟨b7,0,none⟩ = some (.int .i64 0):=cz b6 0;have p8:D5.cell? ⟨b7,1,none⟩ = some (.slice none 0 0):=cz b6 1;have s2:=blk_frozen b6.out 0;have s3:=blk_frozen b6.out 1;have H2:=e1.out;have H3:=d8.out;have q0:D5.cell? ⟨d4,0,none⟩ = some (d5):=cz b3 0;have s4:=blk_frozen b3.out 0;obtain ⟨D6,y9,D7⟩:=Kd.R_slice b0.out;subst D7) | (go_at_call 80;(with_reducible refine (contains81.calls _ _ ((rd_T45 l1 b1).f1) _ _ b8 true _ d4 (bf2_ b4 b4 b3) ?side1 ?side2 ?side3 ?side4 C1.out).mono ?_);(case side1=>exact Kd.C_below e8.out (bl HB));(case side2=>exact e9.out);(case side3=>refine (Kd.R_reads' (e:=3) (base:=w.heap.size) (ok:=fun k_=>some k_ ≠ (l9:Value).ownBlock) (n:=b8.length) (c:=y9) ?_).2.2;exact (by (with_reducible repeat (first | apply Kd.R_alloc | apply Kd.R_drewN | apply Kd.R_drew));exact (Kd.R_mono (Kd.R_far (p:=⟨b7,1,none⟩) (Kd.R_far (p:=⟨b7,0,none⟩) (Kd.R_types b0.out b6.out (by decide)) (fun _ hk=>hk.2) (.int .i64 ((rd_T45 l1 b1).f0))) (fun _ hk=>hk.2) (.slice d0 ((rd_T45 l1 b1).f1).length d1)) (fun _ h_=>h_.1))));(case side4=>exact (Kd.R_reads' b0.out).2.1);rintro e S8 ⟨rfl,hb⟩;replace d2:=A_ (Kd.R_below (by (with_reducible repeat (first | apply Kd.R_alloc | apply Kd.R_drewN | apply Kd.R_drew));exact (Kd.R_mono (Kd.R_far (p:=⟨b7,1,none⟩) (Kd.R_far (p:=⟨b7,0,none⟩) (Kd.R_types d2.out b6.out (by decide)) (fun _ hk=>hk.2) (.int .i64 ((rd_T45 l1 b1).f0))) (fun _ hk=>hk.2) (.slice d0 ((rd_T45 l1 b1).f1).length d1)) (fun _ h_=>h_.1))) hb);replace b0:=A_ (Kd.R_below (by (with_reducible repeat (first | apply Kd.R_alloc | apply Kd.R_drewN | apply Kd.R_drew));exact (Kd.R_mono (Kd.R_far (p:=⟨b7,1,none⟩) (Kd.R_far (p:=⟨b7,0,none⟩) (Kd.R_types b0.out b6.out (by decide)) (fun _ hk=>hk.2) (.int .i64 ((rd_T45 l1 b1).f0))) (fun _ hk=>hk.2) (.slice d0 ((rd_T45 l1 b1).f1).length d1)) (fun _ h_=>h_.1))) hb);replace b2:=A_ (blk_below (g:=d9) (o:=.cells #[.slice A0 l0.length c0,.slice (some e7) l1.length c1] 109 (0,0)) (bf2_ b9 b9 b2) hb);replace b3:=A_ (blk_below (g:=d4) (o:=.cells #[.slice D6 b8.length y9] 28 (0,0)) (bf2_ b4 b4 b3) hb);replace b6:=A_ (blk_below (g:=b7) (o:=.cells #[.int .i64 ((rd_T45 l1 b1).f0),.slice d0 ((rd_T45 l1 b1).f1).length d1] 45 (0,0)) (by (with_reducible repeat (first | refine blk_drewN ?_ _ | refine blk_drew ?_ | refine blk_alloc ?_ _));refine blk_put (cs:=#[.int .i64 ((rd_T45 l1 b1).f0),.slice none 0 0]) ?_ 1 _ rfl;(with_reducible repeat (first | refine blk_drewN ?_ _ | refine blk_drew ?_ | refine blk_alloc ?_ _));refine blk_put (cs:=#[.int .i64 0,.slice none 0 0]) ?_ 0 _ rfl;(with_reducible repeat (first | refine blk_drewN ?_ _ | refine blk_drew ?_ | refine blk_alloc ?_ _));exact b6.out) hb);replace HB:=bB HB hb;(try clear hb))))
      go_roundg k2
      case measure=>have:=B0.out;have:=C0.out;omega
      case rel=>exact ⟨(b5),(wrap64 (b1 + 1)),rf_,rf_,H',⟨by have:=B0.out;have:=C0.out;omega⟩,⟨kr_ d2⟩,⟨kr_ b0⟩,⟨dr_ b2⟩,⟨dr_ b3⟩,⟨by repeat (first | (with_reducible first | exact HB.out | apply below_alloc | apply pw_below_drewN | apply below_drew1 | refine below_set ?_ l7.out | refine below_set ?_ l8.out | refine below_set ?_ i9.out) | exact HB.out)⟩⟩
     replace N0:=Bool.eq_false_iff.mpr N0
     subst N0
     have H1:(if b5 < 0 then (shares_Whole.l1 k2 l1 e0 b1 l1 (l1.length:Int) (wrap64 (b1 + 1)) l0 l1 b8) else (if b1 < (e0.length:Int) then (if 0 ≤ b5 then (if b5 < (l1.length:Int) then (if b5 < (e0.length:Int) then (if (wrap64 ((wrap64 ((rd e0 b1) + 1)) * ((rd_T45 l1 b5).f0))) < (wrap64 ((wrap64 ((rd e0 b5) + 1)) * ((rd_T45 l1 b1).f0))) then (shares_Whole.l1 k2 l1 e0 b1 l1 (l1.length:Int) (wrap64 (b1 + 1)) l0 l1 b8) else (shares_Whole.l1 k2 l1 e0 b5 l1 (l1.length:Int) (wrap64 (b1 + 1)) l0 l1 b8)) else (none)) else (none)) else (none)) else (none))) = some (r1,r2):=by rw [if_neg (show ¬ (false = true) by decide)] at H;exact H
     clear H
     have H:=H1
     clear H1
     by_cases K1:b5 < 0
     ·rw [if_pos K1] at H
      have G5:decide (b5 < 0) = true:=decide_eq_true K1
      clear K1
      have H':=A_ H
      clear H
      have m5:0 ≤ (b1:Int):=oa_
      have m6:b1 < (l1.length:Int):=oa_
      obtain ⟨e7,d0,d1,z4,h4,h5,h6,h7⟩:=at_T45 p1.out b1 m5 m6
      cases z4
      replace h4:=cT HB h4
      replace h5:=cT HB h5
      have e8:=A_ h7
      have e9:=A_ h6
      clear h7 h6
      replace m5:=eq_true m5
      replace m6:=eq_true m6
      go_wp2_with (first | ((with_reducible refine gate_dst (N:=12) rfl ?_);refine box_event ?hg (N:=12) ?hd (cs:=#[.int .i64 0,.slice none 0 0]) (t:=45) ?hr ?_;(case hd=>rfl);(case hg=>rfl);(case hr=>first | (go_simp;done) | (go_simp;rfl));intro b7 hg D8 hbox hb;have b6:=A_ hbox;have h0:=gw hg HB;have i9:=h0;have b9:=nl hg b2;have d6:=ng hg b2;have b4:=nl hg b3;have d7:=ng hg b3;replace d2:=rB d2 hb;replace b0:=rB b0 hb;replace b2:=kB b2 hb;replace b3:=kB b3 hb;replace HB:=bB HB hb;clear hb hbox hg;have H4:=d6.out;have H5:=b9.out;have H6:=d7.out;have H7:=b4.out;have q1:D8.cell? ⟨b7,0,none⟩ = some (.int .i64 0):=cz b6 0;have q2:D8.cell? ⟨b7,1,none⟩ = some (.slice none 0 0):=cz b6 1;have s5:=blk_frozen b6.out 0;have s6:=blk_frozen b6.out 1;have H8:=e1.out;have H9:=d8.out;have q3:D8.cell? ⟨d4,0,none⟩ = some (d5):=cz b3 0;have s7:=blk_frozen b3.out 0;obtain ⟨D9,z0,E0⟩:=Kd.R_slice b0.out;subst E0) | (go_at_call 80;(with_reducible refine (contains81.calls _ _ ((rd_T45 l1 b1).f1) _ _ b8 false _ d4 (bf2_ b4 b4 b3) ?side1 ?side2 ?side3 ?side4 C1.out).mono ?_);(case side1=>exact Kd.C_below e8.out (bl HB));(case side2=>exact e9.out);(case side3=>refine (Kd.R_reads' (e:=3) (base:=w.heap.size) (ok:=fun k_=>some k_ ≠ (l9:Value).ownBlock) (n:=b8.length) (c:=z0) ?_).2.2;exact (by (with_reducible repeat (first | apply Kd.R_alloc | apply Kd.R_drewN | apply Kd.R_drew));exact (Kd.R_mono (Kd.R_far (p:=⟨b7,1,none⟩) (Kd.R_far (p:=⟨b7,0,none⟩) (Kd.R_types b0.out b6.out (by decide)) (fun _ hk=>hk.2) (.int .i64 ((rd_T45 l1 b1).f0))) (fun _ hk=>hk.2) (.slice d0 ((rd_T45 l1 b1).f1).length d1)) (fun _ h_=>h_.1))));(case side4=>exact (Kd.R_reads' b0.out).2.1);rintro e S9 ⟨rfl,hb⟩;replace d2:=A_ (Kd.R_below (by (with_reducible repeat (first | apply Kd.R_alloc | apply Kd.R_drewN | apply Kd.R_drew));exact (Kd.R_mono (Kd.R_far (p:=⟨b7,1,none⟩) (Kd.R_far (p:=⟨b7,0,none⟩) (Kd.R_types d2.out b6.out (by decide)) (fun _ hk=>hk.2) (.int .i64 ((rd_T45 l1 b1).f0))) (fun _ hk=>hk.2) (.slice d0 ((rd_T45 l1 b1).f1).length d1)) (fun _ h_=>h_.1))) hb);replace b0:=A_ (Kd.R_below (by (with_reducible repeat (first | apply Kd.R_alloc | apply Kd.R_drewN | apply Kd.R_drew));exact (Kd.R_mono (Kd.R_far (p:=⟨b7,1,none⟩) (Kd.R_far (p:=⟨b7,0,none⟩) (Kd.R_types b0.out b6.out (by decide)) (fun _ hk=>hk.2) (.int .i64 ((rd_T45 l1 b1).f0))) (fun _ hk=>hk.2) (.slice d0 ((rd_T45 l1 b1).f1).length d1)) (fun _ h_=>h_.1))) hb);replace b2:=A_ (blk_below (g:=d9) (o:=.cells #[.slice A0 l0.length c0,.slice (some e7) l1.length c1] 109 (0,0)) (bf2_ b9 b9 b2) hb);replace b3:=A_ (blk_below (g:=d4) (o:=.cells #[.slice D9 b8.length z0] 28 (0,0)) (bf2_ b4 b4 b3) hb);replace b6:=A_ (blk_below (g:=b7) (o:=.cells #[.int .i64 ((rd_T45 l1 b1).f0),.slice d0 ((rd_T45 l1 b1).f1).length d1] 45 (0,0)) (by (with_reducible repeat (first | refine blk_drewN ?_ _ | refine blk_drew ?_ | refine blk_alloc ?_ _));refine blk_put (cs:=#[.int .i64 ((rd_T45 l1 b1).f0),.slice none 0 0]) ?_ 1 _ rfl;(with_reducible repeat (first | refine blk_drewN ?_ _ | refine blk_drew ?_ | refine blk_alloc ?_ _));refine blk_put (cs:=#[.int .i64 0,.slice none 0 0]) ?_ 0 _ rfl;(with_reducible repeat (first | refine blk_drewN ?_ _ | refine blk_drew ?_ | refine blk_alloc ?_ _));exact b6.out) hb);replace HB:=bB HB hb;(try clear hb)))
      repeat (go_quiet (first | ((with_reducible refine gate_dst (N:=12) rfl ?_);refine box_event ?hg (N:=12) ?hd (cs:=#[.int .i64 0,.slice none 0 0]) (t:=45) ?hr ?_;(case hd=>rfl);(case hg=>rfl);(case hr=>first | (go_simp;done) | (go_simp;rfl));intro b7 hg D8 hbox hb;have b6:=A_ hbox;have h0:=gw hg HB;have i9:=h0;have b9:=nl hg b2;have d6:=ng hg b2;have b4:=nl hg b3;have d7:=ng hg b3;replace d2:=rB d2 hb;replace b0:=rB b0 hb;replace b2:=kB b2 hb;replace b3:=kB b3 hb;replace HB:=bB HB hb;clear hb hbox hg;have H4:=d6.out;have H5:=b9.out;have H6:=d7.out;have H7:=b4.out;have q1:D8.cell? ⟨b7,0,none⟩ = some (.int .i64 0):=cz b6 0;have q2:D8.cell? ⟨b7,1,none⟩ = some (.slice none 0 0):=cz b6 1;have s5:=blk_frozen b6.out 0;have s6:=blk_frozen b6.out 1;have H8:=e1.out;have H9:=d8.out;have q3:D8.cell? ⟨d4,0,none⟩ = some (d5):=cz b3 0;have s7:=blk_frozen b3.out 0;obtain ⟨D9,z0,E0⟩:=Kd.R_slice b0.out;subst E0) | (go_at_call 80;(with_reducible refine (contains81.calls _ _ ((rd_T45 l1 b1).f1) _ _ b8 false _ d4 (bf2_ b4 b4 b3) ?side1 ?side2 ?side3 ?side4 C1.out).mono ?_);(case side1=>exact Kd.C_below e8.out (bl HB));(case side2=>exact e9.out);(case side3=>refine (Kd.R_reads' (e:=3) (base:=w.heap.size) (ok:=fun k_=>some k_ ≠ (l9:Value).ownBlock) (n:=b8.length) (c:=z0) ?_).2.2;exact (by (with_reducible repeat (first | apply Kd.R_alloc | apply Kd.R_drewN | apply Kd.R_drew));exact (Kd.R_mono (Kd.R_far (p:=⟨b7,1,none⟩) (Kd.R_far (p:=⟨b7,0,none⟩) (Kd.R_types b0.out b6.out (by decide)) (fun _ hk=>hk.2) (.int .i64 ((rd_T45 l1 b1).f0))) (fun _ hk=>hk.2) (.slice d0 ((rd_T45 l1 b1).f1).length d1)) (fun _ h_=>h_.1))));(case side4=>exact (Kd.R_reads' b0.out).2.1);rintro e S9 ⟨rfl,hb⟩;replace d2:=A_ (Kd.R_below (by (with_reducible repeat (first | apply Kd.R_alloc | apply Kd.R_drewN | apply Kd.R_drew));exact (Kd.R_mono (Kd.R_far (p:=⟨b7,1,none⟩) (Kd.R_far (p:=⟨b7,0,none⟩) (Kd.R_types d2.out b6.out (by decide)) (fun _ hk=>hk.2) (.int .i64 ((rd_T45 l1 b1).f0))) (fun _ hk=>hk.2) (.slice d0 ((rd_T45 l1 b1).f1).length d1)) (fun _ h_=>h_.1))) hb);replace b0:=A_ (Kd.R_below (by (with_reducible repeat (first | apply Kd.R_alloc | apply Kd.R_drewN | apply Kd.R_drew));exact (Kd.R_mono (Kd.R_far (p:=⟨b7,1,none⟩) (Kd.R_far (p:=⟨b7,0,none⟩) (Kd.R_types b0.out b6.out (by decide)) (fun _ hk=>hk.2) (.int .i64 ((rd_T45 l1 b1).f0))) (fun _ hk=>hk.2) (.slice d0 ((rd_T45 l1 b1).f1).length d1)) (fun _ h_=>h_.1))) hb);replace b2:=A_ (blk_below (g:=d9) (o:=.cells #[.slice A0 l0.length c0,.slice (some e7) l1.length c1] 109 (0,0)) (bf2_ b9 b9 b2) hb);replace b3:=A_ (blk_below (g:=d4) (o:=.cells #[.slice D9 b8.length z0] 28 (0,0)) (bf2_ b4 b4 b3) hb);replace b6:=A_ (blk_below (g:=b7) (o:=.cells #[.int .i64 ((rd_T45 l1 b1).f0),.slice d0 ((rd_T45 l1 b1).f1).length d1] 45 (0,0)) (by (with_reducible repeat (first | refine blk_drewN ?_ _ | refine blk_drew ?_ | refine blk_alloc ?_ _));refine blk_put (cs:=#[.int .i64 ((rd_T45 l1 b1).f0),.slice none 0 0]) ?_ 1 _ rfl;(with_reducible repeat (first | refine blk_drewN ?_ _ | refine blk_drew ?_ | refine blk_alloc ?_ _));refine blk_put (cs:=#[.int .i64 0,.slice none 0 0]) ?_ 0 _ rfl;(with_reducible repeat (first | refine blk_drewN ?_ _ | refine blk_drew ?_ | refine blk_alloc ?_ _));exact b6.out) hb);replace HB:=bB HB hb;(try clear hb)));try go_wp2_with (first | ((with_reducible refine gate_dst (N:=12) rfl ?_);refine box_event ?hg (N:=12) ?hd (cs:=#[.int .i64 0,.slice none 0 0]) (t:=45) ?hr ?_;(case hd=>rfl);(case hg=>rfl);(case hr=>first | (go_simp;done) | (go_simp;rfl));intro b7 hg D8 hbox hb;have b6:=A_ hbox;have h0:=gw hg HB;have i9:=h0;have b9:=nl hg b2;have d6:=ng hg b2;have b4:=nl hg b3;have d7:=ng hg b3;replace d2:=rB d2 hb;replace b0:=rB b0 hb;replace b2:=kB b2 hb;replace b3:=kB b3 hb;replace HB:=bB HB hb;clear hb hbox hg;have H4:=d6.out;have H5:=b9.out;have H6:=d7.out;have H7:=b4.out;have q1:D8.cell? ⟨b7,0,none⟩ = some (.int .i64 0):=cz b6 0;have q2:D8.cell? ⟨b7,1,none⟩ = some (.slice none 0 0):=cz b6 1;have s5:=blk_frozen b6.out 0;have s6:=blk_frozen b6.out 1;have H8:=e1.out;have H9:=d8.out;have q3:D8.cell? ⟨d4,0,none⟩ = some (d5):=cz b3 0;have s7:=blk_frozen b3.out 0;obtain ⟨D9,z0,E0⟩:=Kd.R_slice b0.out;subst E0) | (go_at_call 80;(with_reducible refine (contains81.calls _ _ ((rd_T45 l1 b1).f1) _ _ b8 false _ d4 (bf2_ b4 b4 b3) ?side1 ?side2 ?side3 ?side4 C1.out).mono ?_);(case side1=>exact Kd.C_below e8.out (bl HB));(case side2=>exact e9.out);(case side3=>refine (Kd.R_reads' (e:=3) (base:=w.heap.size) (ok:=fun k_=>some k_ ≠ (l9:Value).ownBlock) (n:=b8.length) (c:=z0) ?_).2.2;exact (by (with_reducible repeat (first | apply Kd.R_alloc | apply Kd.R_drewN | apply Kd.R_drew));exact (Kd.R_mono (Kd.R_far (p:=⟨b7,1,none⟩) (Kd.R_far (p:=⟨b7,0,none⟩) (Kd.R_types b0.out b6.out (by decide)) (fun _ hk=>hk.2) (.int .i64 ((rd_T45 l1 b1).f0))) (fun _ hk=>hk.2) (.slice d0 ((rd_T45 l1 b1).f1).length d1)) (fun _ h_=>h_.1))));(case side4=>exact (Kd.R_reads' b0.out).2.1);rintro e S9 ⟨rfl,hb⟩;replace d2:=A_ (Kd.R_below (by (with_reducible repeat (first | apply Kd.R_alloc | apply Kd.R_drewN | apply Kd.R_drew));exact (Kd.R_mono (Kd.R_far (p:=⟨b7,1,none⟩) (Kd.R_far (p:=⟨b7,0,none⟩) (Kd.R_types d2.out b6.out (by decide)) (fun _ hk=>hk.2) (.int .i64 ((rd_T45 l1 b1).f0))) (fun _ hk=>hk.2) (.slice d0 ((rd_T45 l1 b1).f1).length d1)) (fun _ h_=>h_.1))) hb);replace b0:=A_ (Kd.R_below (by (with_reducible repeat (first | apply Kd.R_alloc | apply Kd.R_drewN | apply Kd.R_drew));exact (Kd.R_mono (Kd.R_far (p:=⟨b7,1,none⟩) (Kd.R_far (p:=⟨b7,0,none⟩) (Kd.R_types b0.out b6.out (by decide)) (fun _ hk=>hk.2) (.int .i64 ((rd_T45 l1 b1).f0))) (fun _ hk=>hk.2) (.slice d0 ((rd_T45 l1 b1).f1).length d1)) (fun _ h_=>h_.1))) hb);replace b2:=A_ (blk_below (g:=d9) (o:=.cells #[.slice A0 l0.length c0,.slice (some e7) l1.length c1] 109 (0,0)) (bf2_ b9 b9 b2) hb);replace b3:=A_ (blk_below (g:=d4) (o:=.cells #[.slice D9 b8.length z0] 28 (0,0)) (bf2_ b4 b4 b3) hb);replace b6:=A_ (blk_below (g:=b7) (o:=.cells #[.int .i64 ((rd_T45 l1 b1).f0),.slice d0 ((rd_T45 l1 b1).f1).length d1] 45 (0,0)) (by (with_reducible repeat (first | refine blk_drewN ?_ _ | refine blk_drew ?_ | refine blk_alloc ?_ _));refine blk_put (cs:=#[.int .i64 ((rd_T45 l1 b1).f0),.slice none 0 0]) ?_ 1 _ rfl;(with_reducible repeat (first | refine blk_drewN ?_ _ | refine blk_drew ?_ | refine blk_alloc ?_ _));refine blk_put (cs:=#[.int .i64 0,.slice none 0 0]) ?_ 0 _ rfl;(with_reducible repeat (first | refine blk_drewN ?_ _ | refine blk_drew ?_ | refine blk_alloc ?_ _));exact b6.out) hb);replace HB:=bB HB hb;(try clear hb))))
      go_roundg k2
      case measure=>have:=B0.out;have:=C0.out;omega
      case rel=>exact ⟨(b1),(wrap64 (b1 + 1)),rf_,rf_,H',⟨by have:=B0.out;have:=C0.out;omega⟩,⟨kr_ d2⟩,⟨kr_ b0⟩,⟨dr_ b2⟩,⟨dr_ b3⟩,⟨by repeat (first | (with_reducible first | exact HB.out | apply below_alloc | apply pw_below_drewN | apply below_drew1 | refine below_set ?_ l7.out | refine below_set ?_ l8.out | refine below_set ?_ i9.out) | exact HB.out)⟩⟩
     rw [if_neg K1] at H
     have G5:decide (b5 < 0) = false:=decide_eq_false K1
     clear K1
     by_cases N1:b1 < (e0.length:Int)
     case neg =>
      rw [if_neg N1] at H
      exact absurd H (by simp)
     rw [if_pos N1] at H
     have N2:decide (b1 < (e0.length:Int)) = true:=decide_eq_true N1
     clear N1
     by_cases N3:0 ≤ b5
     case neg =>
      rw [if_neg N3] at H
      exact absurd H (by simp)
     rw [if_pos N3] at H
     have N4:decide (0 ≤ b5) = true:=decide_eq_true N3
     clear N3
     by_cases N5:b5 < (l1.length:Int)
     case neg =>
      rw [if_neg N5] at H
      exact absurd H (by simp)
     rw [if_pos N5] at H
     have N6:decide (b5 < (l1.length:Int)) = true:=decide_eq_true N5
     clear N5
     by_cases N7:b5 < (e0.length:Int)
     case neg =>
      rw [if_neg N7] at H
      exact absurd H (by simp)
     rw [if_pos N7] at H
     have N8:decide (b5 < (e0.length:Int)) = true:=decide_eq_true N7
     clear N7
     by_cases K2:(wrap64 ((wrap64 ((rd e0 b1) + 1)) * ((rd_T45 l1 b5).f0))) < (wrap64 ((wrap64 ((rd e0 b5) + 1)) * ((rd_T45 l1 b1).f0)))
     ·rw [if_pos K2] at H
      have G6:decide ((wrap64 ((wrap64 ((rd e0 b1) + 1)) * ((rd_T45 l1 b5).f0))) < (wrap64 ((wrap64 ((rd e0 b5) + 1)) * ((rd_T45 l1 b1).f0)))) = true:=decide_eq_true K2
      clear K2
      have H':=A_ H
      clear H
      have m5:0 ≤ (b1:Int):=oa_
      have m6:b1 < (l1.length:Int):=oa_
      obtain ⟨e7,d0,d1,z4,h4,h5,h6,h7⟩:=at_T45 p1.out b1 m5 m6
      cases z4
      replace h4:=cT HB h4
      replace h5:=cT HB h5
      have e8:=A_ h7
      have e9:=A_ h6
      clear h7 h6
      replace m5:=eq_true m5
      replace m6:=eq_true m6
      go_wp2_with (first | ((with_reducible refine gate_dst (N:=12) rfl ?_);refine box_event ?hg (N:=12) ?hd (cs:=#[.int .i64 0,.slice none 0 0]) (t:=45) ?hr ?_;(case hd=>rfl);(case hg=>rfl);(case hr=>first | (go_simp;done) | (go_simp;rfl));intro b7 hg E1 hbox hb;have b6:=A_ hbox;have h0:=gw hg HB;have i9:=h0;have b9:=nl hg b2;have d6:=ng hg b2;have b4:=nl hg b3;have d7:=ng hg b3;replace d2:=rB d2 hb;replace b0:=rB b0 hb;replace b2:=kB b2 hb;replace b3:=kB b3 hb;replace HB:=bB HB hb;clear hb hbox hg;have I0:=d6.out;have I1:=b9.out;have I2:=d7.out;have I3:=b4.out;have q4:E1.cell? ⟨b7,0,none⟩ = some (.int .i64 0):=cz b6 0;have q5:E1.cell? ⟨b7,1,none⟩ = some (.slice none 0 0):=cz b6 1;have s8:=blk_frozen b6.out 0;have s9:=blk_frozen b6.out 1;have I4:=e1.out;have I5:=d8.out;have q6:E1.cell? ⟨d4,0,none⟩ = some (d5):=cz b3 0;have t0:=blk_frozen b3.out 0;obtain ⟨E2,z1,E3⟩:=Kd.R_slice b0.out;subst E3) | (go_at_call 80;(with_reducible refine (contains81.calls _ _ ((rd_T45 l1 b1).f1) _ _ b8 false _ d4 (bf2_ b4 b4 b3) ?side1 ?side2 ?side3 ?side4 C1.out).mono ?_);(case side1=>exact Kd.C_below e8.out (bl HB));(case side2=>exact e9.out);(case side3=>refine (Kd.R_reads' (e:=3) (base:=w.heap.size) (ok:=fun k_=>some k_ ≠ (l9:Value).ownBlock) (n:=b8.length) (c:=z1) ?_).2.2;exact (by (with_reducible repeat (first | apply Kd.R_alloc | apply Kd.R_drewN | apply Kd.R_drew));exact (Kd.R_mono (Kd.R_far (p:=⟨b7,1,none⟩) (Kd.R_far (p:=⟨b7,0,none⟩) (Kd.R_types b0.out b6.out (by decide)) (fun _ hk=>hk.2) (.int .i64 ((rd_T45 l1 b1).f0))) (fun _ hk=>hk.2) (.slice d0 ((rd_T45 l1 b1).f1).length d1)) (fun _ h_=>h_.1))));(case side4=>exact (Kd.R_reads' b0.out).2.1);rintro e A6 ⟨rfl,hb⟩;replace d2:=A_ (Kd.R_below (by (with_reducible repeat (first | apply Kd.R_alloc | apply Kd.R_drewN | apply Kd.R_drew));exact (Kd.R_mono (Kd.R_far (p:=⟨b7,1,none⟩) (Kd.R_far (p:=⟨b7,0,none⟩) (Kd.R_types d2.out b6.out (by decide)) (fun _ hk=>hk.2) (.int .i64 ((rd_T45 l1 b1).f0))) (fun _ hk=>hk.2) (.slice d0 ((rd_T45 l1 b1).f1).length d1)) (fun _ h_=>h_.1))) hb);replace b0:=A_ (Kd.R_below (by (with_reducible repeat (first | apply Kd.R_alloc | apply Kd.R_drewN | apply Kd.R_drew));exact (Kd.R_mono (Kd.R_far (p:=⟨b7,1,none⟩) (Kd.R_far (p:=⟨b7,0,none⟩) (Kd.R_types b0.out b6.out (by decide)) (fun _ hk=>hk.2) (.int .i64 ((rd_T45 l1 b1).f0))) (fun _ hk=>hk.2) (.slice d0 ((rd_T45 l1 b1).f1).length d1)) (fun _ h_=>h_.1))) hb);replace b2:=A_ (blk_below (g:=d9) (o:=.cells #[.slice A0 l0.length c0,.slice (some e7) l1.length c1] 109 (0,0)) (bf2_ b9 b9 b2) hb);replace b3:=A_ (blk_below (g:=d4) (o:=.cells #[.slice E2 b8.length z1] 28 (0,0)) (bf2_ b4 b4 b3) hb);replace b6:=A_ (blk_below (g:=b7) (o:=.cells #[.int .i64 ((rd_T45 l1 b1).f0),.slice d0 ((rd_T45 l1 b1).f1).length d1] 45 (0,0)) (by (with_reducible repeat (first | refine blk_drewN ?_ _ | refine blk_drew ?_ | refine blk_alloc ?_ _));refine blk_put (cs:=#[.int .i64 ((rd_T45 l1 b1).f0),.slice none 0 0]) ?_ 1 _ rfl;(with_reducible repeat (first | refine blk_drewN ?_ _ | refine blk_drew ?_ | refine blk_alloc ?_ _));refine blk_put (cs:=#[.int .i64 0,.slice none 0 0]) ?_ 0 _ rfl;(with_reducible repeat (first | refine blk_drewN ?_ _ | refine blk_drew ?_ | refine blk_alloc ?_ _));exact b6.out) hb);replace HB:=bB HB hb;(try clear hb);obtain ⟨O4,O5,E4⟩:=Kd.R_slice d2.out;subst E4;have i2:0 ≤ (b1:Int):=oa_;have i5:b1 < (e0.length:Int):=oa_;obtain ⟨m0,o4,m3⟩:=Kd.at_int (Kd.R_reads' d2.out).2.2 b1 i2 i5;cases o4;replace i2:=eq_true i2;replace i5:=eq_true i5;have q8:A6.cell? ⟨d9,0,none⟩ = some (.slice A0 l0.length c0):=cz b2 0;have r0:A6.cell? ⟨d9,1,none⟩ = some (.slice (some e7) l1.length c1):=cz b2 1;have t1:=blk_frozen b2.out 0;have t2:=blk_frozen b2.out 1;have i3:0 ≤ (b5:Int):=oa_;have i6:b5 < (l1.length:Int):=oa_;obtain ⟨m1,o5,o6,o7,e3,e4,e5,e6⟩:=at_T45 p1.out b5 i3 i6;obtain rfl:e7 = m1:=(by injection o7);replace e3:=cT HB e3;replace e4:=cT HB e4;have n4:=A_ e6;have n5:=A_ e5;clear e6 e5;replace i3:=eq_true i3;replace i6:=eq_true i6;have i4:0 ≤ (b5:Int):=oa_;have i7:b5 < (e0.length:Int):=oa_;obtain ⟨m2,o8,m4⟩:=Kd.at_int (Kd.R_reads' d2.out).2.2 b5 i4 i7;obtain rfl:m0 = m2:=(by injection o8);replace i4:=eq_true i4;replace i7:=eq_true i7;have r3:A6.cell? ⟨b7,0,none⟩ = some (.int .i64 ((rd_T45 l1 b1).f0)):=cz b6 0;have r4:A6.cell? ⟨b7,1,none⟩ = some (.slice d0 ((rd_T45 l1 b1).f1).length d1):=cz b6 1;have t3:=blk_frozen b6.out 0;have t4:=blk_frozen b6.out 1))
      repeat (go_quiet (first | ((with_reducible refine gate_dst (N:=12) rfl ?_);refine box_event ?hg (N:=12) ?hd (cs:=#[.int .i64 0,.slice none 0 0]) (t:=45) ?hr ?_;(case hd=>rfl);(case hg=>rfl);(case hr=>first | (go_simp;done) | (go_simp;rfl));intro b7 hg E1 hbox hb;have b6:=A_ hbox;have h0:=gw hg HB;have i9:=h0;have b9:=nl hg b2;have d6:=ng hg b2;have b4:=nl hg b3;have d7:=ng hg b3;replace d2:=rB d2 hb;replace b0:=rB b0 hb;replace b2:=kB b2 hb;replace b3:=kB b3 hb;replace HB:=bB HB hb;clear hb hbox hg;have I0:=d6.out;have I1:=b9.out;have I2:=d7.out;have I3:=b4.out;have q4:E1.cell? ⟨b7,0,none⟩ = some (.int .i64 0):=cz b6 0;have q5:E1.cell? ⟨b7,1,none⟩ = some (.slice none 0 0):=cz b6 1;have s8:=blk_frozen b6.out 0;have s9:=blk_frozen b6.out 1;have I4:=e1.out;have I5:=d8.out;have q6:E1.cell? ⟨d4,0,none⟩ = some (d5):=cz b3 0;have t0:=blk_frozen b3.out 0;obtain ⟨E2,z1,E3⟩:=Kd.R_slice b0.out;subst E3) | (go_at_call 80;(with_reducible refine (contains81.calls _ _ ((rd_T45 l1 b1).f1) _ _ b8 false _ d4 (bf2_ b4 b4 b3) ?side1 ?side2 ?side3 ?side4 C1.out).mono ?_);(case side1=>exact Kd.C_below e8.out (bl HB));(case side2=>exact e9.out);(case side3=>refine (Kd.R_reads' (e:=3) (base:=w.heap.size) (ok:=fun k_=>some k_ ≠ (l9:Value).ownBlock) (n:=b8.length) (c:=z1) ?_).2.2;exact (by (with_reducible repeat (first | apply Kd.R_alloc | apply Kd.R_drewN | apply Kd.R_drew));exact (Kd.R_mono (Kd.R_far (p:=⟨b7,1,none⟩) (Kd.R_far (p:=⟨b7,0,none⟩) (Kd.R_types b0.out b6.out (by decide)) (fun _ hk=>hk.2) (.int .i64 ((rd_T45 l1 b1).f0))) (fun _ hk=>hk.2) (.slice d0 ((rd_T45 l1 b1).f1).length d1)) (fun _ h_=>h_.1))));(case side4=>exact (Kd.R_reads' b0.out).2.1);rintro e A6 ⟨rfl,hb⟩;replace d2:=A_ (Kd.R_below (by (with_reducible repeat (first | apply Kd.R_alloc | apply Kd.R_drewN | apply Kd.R_drew));exact (Kd.R_mono (Kd.R_far (p:=⟨b7,1,none⟩) (Kd.R_far (p:=⟨b7,0,none⟩) (Kd.R_types d2.out b6.out (by decide)) (fun _ hk=>hk.2) (.int .i64 ((rd_T45 l1 b1).f0))) (fun _ hk=>hk.2) (.slice d0 ((rd_T45 l1 b1).f1).length d1)) (fun _ h_=>h_.1))) hb);replace b0:=A_ (Kd.R_below (by (with_reducible repeat (first | apply Kd.R_alloc | apply Kd.R_drewN | apply Kd.R_drew));exact (Kd.R_mono (Kd.R_far (p:=⟨b7,1,none⟩) (Kd.R_far (p:=⟨b7,0,none⟩) (Kd.R_types b0.out b6.out (by decide)) (fun _ hk=>hk.2) (.int .i64 ((rd_T45 l1 b1).f0))) (fun _ hk=>hk.2) (.slice d0 ((rd_T45 l1 b1).f1).length d1)) (fun _ h_=>h_.1))) hb);replace b2:=A_ (blk_below (g:=d9) (o:=.cells #[.slice A0 l0.length c0,.slice (some e7) l1.length c1] 109 (0,0)) (bf2_ b9 b9 b2) hb);replace b3:=A_ (blk_below (g:=d4) (o:=.cells #[.slice E2 b8.length z1] 28 (0,0)) (bf2_ b4 b4 b3) hb);replace b6:=A_ (blk_below (g:=b7) (o:=.cells #[.int .i64 ((rd_T45 l1 b1).f0),.slice d0 ((rd_T45 l1 b1).f1).length d1] 45 (0,0)) (by (with_reducible repeat (first | refine blk_drewN ?_ _ | refine blk_drew ?_ | refine blk_alloc ?_ _));refine blk_put (cs:=#[.int .i64 ((rd_T45 l1 b1).f0),.slice none 0 0]) ?_ 1 _ rfl;(with_reducible repeat (first | refine blk_drewN ?_ _ | refine blk_drew ?_ | refine blk_alloc ?_ _));refine blk_put (cs:=#[.int .i64 0,.slice none 0 0]) ?_ 0 _ rfl;(with_reducible repeat (first | refine blk_drewN ?_ _ | refine blk_drew ?_ | refine blk_alloc ?_ _));exact b6.out) hb);replace HB:=bB HB hb;(try clear hb);obtain ⟨O4,O5,E4⟩:=Kd.R_slice d2.out;subst E4;have i2:0 ≤ (b1:Int):=oa_;have i5:b1 < (e0.length:Int):=oa_;obtain ⟨m0,o4,m3⟩:=Kd.at_int (Kd.R_reads' d2.out).2.2 b1 i2 i5;cases o4;replace i2:=eq_true i2;replace i5:=eq_true i5;have q8:A6.cell? ⟨d9,0,none⟩ = some (.slice A0 l0.length c0):=cz b2 0;have r0:A6.cell? ⟨d9,1,none⟩ = some (.slice (some e7) l1.length c1):=cz b2 1;have t1:=blk_frozen b2.out 0;have t2:=blk_frozen b2.out 1;have i3:0 ≤ (b5:Int):=oa_;have i6:b5 < (l1.length:Int):=oa_;obtain ⟨m1,o5,o6,o7,e3,e4,e5,e6⟩:=at_T45 p1.out b5 i3 i6;obtain rfl:e7 = m1:=(by injection o7);replace e3:=cT HB e3;replace e4:=cT HB e4;have n4:=A_ e6;have n5:=A_ e5;clear e6 e5;replace i3:=eq_true i3;replace i6:=eq_true i6;have i4:0 ≤ (b5:Int):=oa_;have i7:b5 < (e0.length:Int):=oa_;obtain ⟨m2,o8,m4⟩:=Kd.at_int (Kd.R_reads' d2.out).2.2 b5 i4 i7;obtain rfl:m0 = m2:=(by injection o8);replace i4:=eq_true i4;replace i7:=eq_true i7;have r3:A6.cell? ⟨b7,0,none⟩ = some (.int .i64 ((rd_T45 l1 b1).f0)):=cz b6 0;have r4:A6.cell? ⟨b7,1,none⟩ = some (.slice d0 ((rd_T45 l1 b1).f1).length d1):=cz b6 1;have t3:=blk_frozen b6.out 0;have t4:=blk_frozen b6.out 1));try go_wp2_with (first | ((with_reducible refine gate_dst (N:=12) rfl ?_);refine box_event ?hg (N:=12) ?hd (cs:=#[.int .i64 0,.slice none 0 0]) (t:=45) ?hr ?_;(case hd=>rfl);(case hg=>rfl);(case hr=>first | (go_simp;done) | (go_simp;rfl));intro b7 hg E1 hbox hb;have b6:=A_ hbox;have h0:=gw hg HB;have i9:=h0;have b9:=nl hg b2;have d6:=ng hg b2;have b4:=nl hg b3;have d7:=ng hg b3;replace d2:=rB d2 hb;replace b0:=rB b0 hb;replace b2:=kB b2 hb;replace b3:=kB b3 hb;replace HB:=bB HB hb;clear hb hbox hg;have I0:=d6.out;have I1:=b9.out;have I2:=d7.out;have I3:=b4.out;have q4:E1.cell? ⟨b7,0,none⟩ = some (.int .i64 0):=cz b6 0;have q5:E1.cell? ⟨b7,1,none⟩ = some (.slice none 0 0):=cz b6 1;have s8:=blk_frozen b6.out 0;have s9:=blk_frozen b6.out 1;have I4:=e1.out;have I5:=d8.out;have q6:E1.cell? ⟨d4,0,none⟩ = some (d5):=cz b3 0;have t0:=blk_frozen b3.out 0;obtain ⟨E2,z1,E3⟩:=Kd.R_slice b0.out;subst E3) | (go_at_call 80;(with_reducible refine (contains81.calls _ _ ((rd_T45 l1 b1).f1) _ _ b8 false _ d4 (bf2_ b4 b4 b3) ?side1 ?side2 ?side3 ?side4 C1.out).mono ?_);(case side1=>exact Kd.C_below e8.out (bl HB));(case side2=>exact e9.out);(case side3=>refine (Kd.R_reads' (e:=3) (base:=w.heap.size) (ok:=fun k_=>some k_ ≠ (l9:Value).ownBlock) (n:=b8.length) (c:=z1) ?_).2.2;exact (by (with_reducible repeat (first | apply Kd.R_alloc | apply Kd.R_drewN | apply Kd.R_drew));exact (Kd.R_mono (Kd.R_far (p:=⟨b7,1,none⟩) (Kd.R_far (p:=⟨b7,0,none⟩) (Kd.R_types b0.out b6.out (by decide)) (fun _ hk=>hk.2) (.int .i64 ((rd_T45 l1 b1).f0))) (fun _ hk=>hk.2) (.slice d0 ((rd_T45 l1 b1).f1).length d1)) (fun _ h_=>h_.1))));(case side4=>exact (Kd.R_reads' b0.out).2.1);rintro e A6 ⟨rfl,hb⟩;replace d2:=A_ (Kd.R_below (by (with_reducible repeat (first | apply Kd.R_alloc | apply Kd.R_drewN | apply Kd.R_drew));exact (Kd.R_mono (Kd.R_far (p:=⟨b7,1,none⟩) (Kd.R_far (p:=⟨b7,0,none⟩) (Kd.R_types d2.out b6.out (by decide)) (fun _ hk=>hk.2) (.int .i64 ((rd_T45 l1 b1).f0))) (fun _ hk=>hk.2) (.slice d0 ((rd_T45 l1 b1).f1).length d1)) (fun _ h_=>h_.1))) hb);replace b0:=A_ (Kd.R_below (by (with_reducible repeat (first | apply Kd.R_alloc | apply Kd.R_drewN | apply Kd.R_drew));exact (Kd.R_mono (Kd.R_far (p:=⟨b7,1,none⟩) (Kd.R_far (p:=⟨b7,0,none⟩) (Kd.R_types b0.out b6.out (by decide)) (fun _ hk=>hk.2) (.int .i64 ((rd_T45 l1 b1).f0))) (fun _ hk=>hk.2) (.slice d0 ((rd_T45 l1 b1).f1).length d1)) (fun _ h_=>h_.1))) hb);replace b2:=A_ (blk_below (g:=d9) (o:=.cells #[.slice A0 l0.length c0,.slice (some e7) l1.length c1] 109 (0,0)) (bf2_ b9 b9 b2) hb);replace b3:=A_ (blk_below (g:=d4) (o:=.cells #[.slice E2 b8.length z1] 28 (0,0)) (bf2_ b4 b4 b3) hb);replace b6:=A_ (blk_below (g:=b7) (o:=.cells #[.int .i64 ((rd_T45 l1 b1).f0),.slice d0 ((rd_T45 l1 b1).f1).length d1] 45 (0,0)) (by (with_reducible repeat (first | refine blk_drewN ?_ _ | refine blk_drew ?_ | refine blk_alloc ?_ _));refine blk_put (cs:=#[.int .i64 ((rd_T45 l1 b1).f0),.slice none 0 0]) ?_ 1 _ rfl;(with_reducible repeat (first | refine blk_drewN ?_ _ | refine blk_drew ?_ | refine blk_alloc ?_ _));refine blk_put (cs:=#[.int .i64 0,.slice none 0 0]) ?_ 0 _ rfl;(with_reducible repeat (first | refine blk_drewN ?_ _ | refine blk_drew ?_ | refine blk_alloc ?_ _));exact b6.out) hb);replace HB:=bB HB hb;(try clear hb);obtain ⟨O4,O5,E4⟩:=Kd.R_slice d2.out;subst E4;have i2:0 ≤ (b1:Int):=oa_;have i5:b1 < (e0.length:Int):=oa_;obtain ⟨m0,o4,m3⟩:=Kd.at_int (Kd.R_reads' d2.out).2.2 b1 i2 i5;cases o4;replace i2:=eq_true i2;replace i5:=eq_true i5;have q8:A6.cell? ⟨d9,0,none⟩ = some (.slice A0 l0.length c0):=cz b2 0;have r0:A6.cell? ⟨d9,1,none⟩ = some (.slice (some e7) l1.length c1):=cz b2 1;have t1:=blk_frozen b2.out 0;have t2:=blk_frozen b2.out 1;have i3:0 ≤ (b5:Int):=oa_;have i6:b5 < (l1.length:Int):=oa_;obtain ⟨m1,o5,o6,o7,e3,e4,e5,e6⟩:=at_T45 p1.out b5 i3 i6;obtain rfl:e7 = m1:=(by injection o7);replace e3:=cT HB e3;replace e4:=cT HB e4;have n4:=A_ e6;have n5:=A_ e5;clear e6 e5;replace i3:=eq_true i3;replace i6:=eq_true i6;have i4:0 ≤ (b5:Int):=oa_;have i7:b5 < (e0.length:Int):=oa_;obtain ⟨m2,o8,m4⟩:=Kd.at_int (Kd.R_reads' d2.out).2.2 b5 i4 i7;obtain rfl:m0 = m2:=(by injection o8);replace i4:=eq_true i4;replace i7:=eq_true i7;have r3:A6.cell? ⟨b7,0,none⟩ = some (.int .i64 ((rd_T45 l1 b1).f0)):=cz b6 0;have r4:A6.cell? ⟨b7,1,none⟩ = some (.slice d0 ((rd_T45 l1 b1).f1).length d1):=cz b6 1;have t3:=blk_frozen b6.out 0;have t4:=blk_frozen b6.out 1)))
      go_roundg k2
      case measure=>have:=B0.out;have:=C0.out;omega
      case rel=>exact ⟨(b1),(wrap64 (b1 + 1)),rf_,rf_,H',⟨by have:=B0.out;have:=C0.out;omega⟩,⟨kr_ d2⟩,⟨kr_ b0⟩,⟨dr_ b2⟩,⟨dr_ b3⟩,⟨by repeat (first | (with_reducible first | exact HB.out | apply below_alloc | apply pw_below_drewN | apply below_drew1 | refine below_set ?_ l7.out | refine below_set ?_ l8.out | refine below_set ?_ i9.out) | exact HB.out)⟩⟩
     rw [if_neg K2] at H
     have G6:decide ((wrap64 ((wrap64 ((rd e0 b1) + 1)) * ((rd_T45 l1 b5).f0))) < (wrap64 ((wrap64 ((rd e0 b5) + 1)) * ((rd_T45 l1 b1).f0)))) = false:=decide_eq_false K2
     clear K2
     have H':=A_ H
     clear H
     have m5:0 ≤ (b1:Int):=oa_
     have m6:b1 < (l1.length:Int):=oa_
     obtain ⟨e7,d0,d1,z4,h4,h5,h6,h7⟩:=at_T45 p1.out b1 m5 m6
     cases z4
     replace h4:=cT HB h4
     replace h5:=cT HB h5
     have e8:=A_ h7
     have e9:=A_ h6
     clear h7 h6
     replace m5:=eq_true m5
     replace m6:=eq_true m6
     go_wp2_with (first | ((with_reducible refine gate_dst (N:=12) rfl ?_);refine box_event ?hg (N:=12) ?hd (cs:=#[.int .i64 0,.slice none 0 0]) (t:=45) ?hr ?_;(case hd=>rfl);(case hg=>rfl);(case hr=>first | (go_simp;done) | (go_simp;rfl));intro b7 hg E5 hbox hb;have b6:=A_ hbox;have h0:=gw hg HB;have i9:=h0;have b9:=nl hg b2;have d6:=ng hg b2;have b4:=nl hg b3;have d7:=ng hg b3;replace d2:=rB d2 hb;replace b0:=rB b0 hb;replace b2:=kB b2 hb;replace b3:=kB b3 hb;replace HB:=bB HB hb;clear hb hbox hg;have I6:=d6.out;have I7:=b9.out;have I8:=d7.out;have I9:=b4.out;have r5:E5.cell? ⟨b7,0,none⟩ = some (.int .i64 0):=cz b6 0;have r6:E5.cell? ⟨b7,1,none⟩ = some (.slice none 0 0):=cz b6 1;have t5:=blk_frozen b6.out 0;have t6:=blk_frozen b6.out 1;have J0:=e1.out;have J1:=d8.out;have r7:E5.cell? ⟨d4,0,none⟩ = some (d5):=cz b3 0;have t7:=blk_frozen b3.out 0;obtain ⟨E6,z2,E7⟩:=Kd.R_slice b0.out;subst E7) | (go_at_call 80;(with_reducible refine (contains81.calls _ _ ((rd_T45 l1 b1).f1) _ _ b8 false _ d4 (bf2_ b4 b4 b3) ?side1 ?side2 ?side3 ?side4 C1.out).mono ?_);(case side1=>exact Kd.C_below e8.out (bl HB));(case side2=>exact e9.out);(case side3=>refine (Kd.R_reads' (e:=3) (base:=w.heap.size) (ok:=fun k_=>some k_ ≠ (l9:Value).ownBlock) (n:=b8.length) (c:=z2) ?_).2.2;exact (by (with_reducible repeat (first | apply Kd.R_alloc | apply Kd.R_drewN | apply Kd.R_drew));exact (Kd.R_mono (Kd.R_far (p:=⟨b7,1,none⟩) (Kd.R_far (p:=⟨b7,0,none⟩) (Kd.R_types b0.out b6.out (by decide)) (fun _ hk=>hk.2) (.int .i64 ((rd_T45 l1 b1).f0))) (fun _ hk=>hk.2) (.slice d0 ((rd_T45 l1 b1).f1).length d1)) (fun _ h_=>h_.1))));(case side4=>exact (Kd.R_reads' b0.out).2.1);rintro e A7 ⟨rfl,hb⟩;replace d2:=A_ (Kd.R_below (by (with_reducible repeat (first | apply Kd.R_alloc | apply Kd.R_drewN | apply Kd.R_drew));exact (Kd.R_mono (Kd.R_far (p:=⟨b7,1,none⟩) (Kd.R_far (p:=⟨b7,0,none⟩) (Kd.R_types d2.out b6.out (by decide)) (fun _ hk=>hk.2) (.int .i64 ((rd_T45 l1 b1).f0))) (fun _ hk=>hk.2) (.slice d0 ((rd_T45 l1 b1).f1).length d1)) (fun _ h_=>h_.1))) hb);replace b0:=A_ (Kd.R_below (by (with_reducible repeat (first | apply Kd.R_alloc | apply Kd.R_drewN | apply Kd.R_drew));exact (Kd.R_mono (Kd.R_far (p:=⟨b7,1,none⟩) (Kd.R_far (p:=⟨b7,0,none⟩) (Kd.R_types b0.out b6.out (by decide)) (fun _ hk=>hk.2) (.int .i64 ((rd_T45 l1 b1).f0))) (fun _ hk=>hk.2) (.slice d0 ((rd_T45 l1 b1).f1).length d1)) (fun _ h_=>h_.1))) hb);replace b2:=A_ (blk_below (g:=d9) (o:=.cells #[.slice A0 l0.length c0,.slice (some e7) l1.length c1] 109 (0,0)) (bf2_ b9 b9 b2) hb);replace b3:=A_ (blk_below (g:=d4) (o:=.cells #[.slice E6 b8.length z2] 28 (0,0)) (bf2_ b4 b4 b3) hb);replace b6:=A_ (blk_below (g:=b7) (o:=.cells #[.int .i64 ((rd_T45 l1 b1).f0),.slice d0 ((rd_T45 l1 b1).f1).length d1] 45 (0,0)) (by (with_reducible repeat (first | refine blk_drewN ?_ _ | refine blk_drew ?_ | refine blk_alloc ?_ _));refine blk_put (cs:=#[.int .i64 ((rd_T45 l1 b1).f0),.slice none 0 0]) ?_ 1 _ rfl;(with_reducible repeat (first | refine blk_drewN ?_ _ | refine blk_drew ?_ | refine blk_alloc ?_ _));refine blk_put (cs:=#[.int .i64 0,.slice none 0 0]) ?_ 0 _ rfl;(with_reducible repeat (first | refine blk_drewN ?_ _ | refine blk_drew ?_ | refine blk_alloc ?_ _));exact b6.out) hb);replace HB:=bB HB hb;(try clear hb);obtain ⟨O6,O7,E8⟩:=Kd.R_slice d2.out;subst E8;have i2:0 ≤ (b1:Int):=oa_;have i5:b1 < (e0.length:Int):=oa_;obtain ⟨m0,o4,m3⟩:=Kd.at_int (Kd.R_reads' d2.out).2.2 b1 i2 i5;cases o4;replace i2:=eq_true i2;replace i5:=eq_true i5;have r8:A7.cell? ⟨d9,0,none⟩ = some (.slice A0 l0.length c0):=cz b2 0;have r9:A7.cell? ⟨d9,1,none⟩ = some (.slice (some e7) l1.length c1):=cz b2 1;have t8:=blk_frozen b2.out 0;have t9:=blk_frozen b2.out 1;have i3:0 ≤ (b5:Int):=oa_;have i6:b5 < (l1.length:Int):=oa_;obtain ⟨m1,o5,o6,o7,e3,e4,e5,e6⟩:=at_T45 p1.out b5 i3 i6;obtain rfl:e7 = m1:=(by injection o7);replace e3:=cT HB e3;replace e4:=cT HB e4;have n4:=A_ e6;have n5:=A_ e5;clear e6 e5;replace i3:=eq_true i3;replace i6:=eq_true i6;have i4:0 ≤ (b5:Int):=oa_;have i7:b5 < (e0.length:Int):=oa_;obtain ⟨m2,o8,m4⟩:=Kd.at_int (Kd.R_reads' d2.out).2.2 b5 i4 i7;obtain rfl:m0 = m2:=(by injection o8);replace i4:=eq_true i4;replace i7:=eq_true i7;have s0:A7.cell? ⟨b7,0,none⟩ = some (.int .i64 ((rd_T45 l1 b1).f0)):=cz b6 0;have s1:A7.cell? ⟨b7,1,none⟩ = some (.slice d0 ((rd_T45 l1 b1).f1).length d1):=cz b6 1;have x0:=blk_frozen b6.out 0;have x2:=blk_frozen b6.out 1))
     repeat (go_quiet (first | ((with_reducible refine gate_dst (N:=12) rfl ?_);refine box_event ?hg (N:=12) ?hd (cs:=#[.int .i64 0,.slice none 0 0]) (t:=45) ?hr ?_;(case hd=>rfl);(case hg=>rfl);(case hr=>first | (go_simp;done) | (go_simp;rfl));intro b7 hg E5 hbox hb;have b6:=A_ hbox;have h0:=gw hg HB;have i9:=h0;have b9:=nl hg b2;have d6:=ng hg b2;have b4:=nl hg b3;have d7:=ng hg b3;replace d2:=rB d2 hb;replace b0:=rB b0 hb;replace b2:=kB b2 hb;replace b3:=kB b3 hb;replace HB:=bB HB hb;clear hb hbox hg;have I6:=d6.out;have I7:=b9.out;have I8:=d7.out;have I9:=b4.out;have r5:E5.cell? ⟨b7,0,none⟩ = some (.int .i64 0):=cz b6 0;have r6:E5.cell? ⟨b7,1,none⟩ = some (.slice none 0 0):=cz b6 1;have t5:=blk_frozen b6.out 0;have t6:=blk_frozen b6.out 1;have J0:=e1.out;have J1:=d8.out;have r7:E5.cell? ⟨d4,0,none⟩ = some (d5):=cz b3 0;have t7:=blk_frozen b3.out 0;obtain ⟨E6,z2,E7⟩:=Kd.R_slice b0.out;subst E7) | (go_at_call 80;(with_reducible refine (contains81.calls _ _ ((rd_T45 l1 b1).f1) _ _ b8 false _ d4 (bf2_ b4 b4 b3) ?side1 ?side2 ?side3 ?side4 C1.out).mono ?_);(case side1=>exact Kd.C_below e8.out (bl HB));(case side2=>exact e9.out);(case side3=>refine (Kd.R_reads' (e:=3) (base:=w.heap.size) (ok:=fun k_=>some k_ ≠ (l9:Value).ownBlock) (n:=b8.length) (c:=z2) ?_).2.2;exact (by (with_reducible repeat (first | apply Kd.R_alloc | apply Kd.R_drewN | apply Kd.R_drew));exact (Kd.R_mono (Kd.R_far (p:=⟨b7,1,none⟩) (Kd.R_far (p:=⟨b7,0,none⟩) (Kd.R_types b0.out b6.out (by decide)) (fun _ hk=>hk.2) (.int .i64 ((rd_T45 l1 b1).f0))) (fun _ hk=>hk.2) (.slice d0 ((rd_T45 l1 b1).f1).length d1)) (fun _ h_=>h_.1))));(case side4=>exact (Kd.R_reads' b0.out).2.1);rintro e A7 ⟨rfl,hb⟩;replace d2:=A_ (Kd.R_below (by (with_reducible repeat (first | apply Kd.R_alloc | apply Kd.R_drewN | apply Kd.R_drew));exact (Kd.R_mono (Kd.R_far (p:=⟨b7,1,none⟩) (Kd.R_far (p:=⟨b7,0,none⟩) (Kd.R_types d2.out b6.out (by decide)) (fun _ hk=>hk.2) (.int .i64 ((rd_T45 l1 b1).f0))) (fun _ hk=>hk.2) (.slice d0 ((rd_T45 l1 b1).f1).length d1)) (fun _ h_=>h_.1))) hb);replace b0:=A_ (Kd.R_below (by (with_reducible repeat (first | apply Kd.R_alloc | apply Kd.R_drewN | apply Kd.R_drew));exact (Kd.R_mono (Kd.R_far (p:=⟨b7,1,none⟩) (Kd.R_far (p:=⟨b7,0,none⟩) (Kd.R_types b0.out b6.out (by decide)) (fun _ hk=>hk.2) (.int .i64 ((rd_T45 l1 b1).f0))) (fun _ hk=>hk.2) (.slice d0 ((rd_T45 l1 b1).f1).length d1)) (fun _ h_=>h_.1))) hb);replace b2:=A_ (blk_below (g:=d9) (o:=.cells #[.slice A0 l0.length c0,.slice (some e7) l1.length c1] 109 (0,0)) (bf2_ b9 b9 b2) hb);replace b3:=A_ (blk_below (g:=d4) (o:=.cells #[.slice E6 b8.length z2] 28 (0,0)) (bf2_ b4 b4 b3) hb);replace b6:=A_ (blk_below (g:=b7) (o:=.cells #[.int .i64 ((rd_T45 l1 b1).f0),.slice d0 ((rd_T45 l1 b1).f1).length d1] 45 (0,0)) (by (with_reducible repeat (first | refine blk_drewN ?_ _ | refine blk_drew ?_ | refine blk_alloc ?_ _));refine blk_put (cs:=#[.int .i64 ((rd_T45 l1 b1).f0),.slice none 0 0]) ?_ 1 _ rfl;(with_reducible repeat (first | refine blk_drewN ?_ _ | refine blk_drew ?_ | refine blk_alloc ?_ _));refine blk_put (cs:=#[.int .i64 0,.slice none 0 0]) ?_ 0 _ rfl;(with_reducible repeat (first | refine blk_drewN ?_ _ | refine blk_drew ?_ | refine blk_alloc ?_ _));exact b6.out) hb);replace HB:=bB HB hb;(try clear hb);obtain ⟨O6,O7,E8⟩:=Kd.R_slice d2.out;subst E8;have i2:0 ≤ (b1:Int):=oa_;have i5:b1 < (e0.length:Int):=oa_;obtain ⟨m0,o4,m3⟩:=Kd.at_int (Kd.R_reads' d2.out).2.2 b1 i2 i5;cases o4;replace i2:=eq_true i2;replace i5:=eq_true i5;have r8:A7.cell? ⟨d9,0,none⟩ = some (.slice A0 l0.length c0):=cz b2 0;have r9:A7.cell? ⟨d9,1,none⟩ = some (.slice (some e7) l1.length c1):=cz b2 1;have t8:=blk_frozen b2.out 0;have t9:=blk_frozen b2.out 1;have i3:0 ≤ (b5:Int):=oa_;have i6:b5 < (l1.length:Int):=oa_;obtain ⟨m1,o5,o6,o7,e3,e4,e5,e6⟩:=at_T45 p1.out b5 i3 i6;obtain rfl:e7 = m1:=(by injection o7);replace e3:=cT HB e3;replace e4:=cT HB e4;have n4:=A_ e6;have n5:=A_ e5;clear e6 e5;replace i3:=eq_true i3;replace i6:=eq_true i6;have i4:0 ≤ (b5:Int):=oa_;have i7:b5 < (e0.length:Int):=oa_;obtain ⟨m2,o8,m4⟩:=Kd.at_int (Kd.R_reads' d2.out).2.2 b5 i4 i7;obtain rfl:m0 = m2:=(by injection o8);replace i4:=eq_true i4;replace i7:=eq_true i7;have s0:A7.cell? ⟨b7,0,none⟩ = some (.int .i64 ((rd_T45 l1 b1).f0)):=cz b6 0;have s1:A7.cell? ⟨b7,1,none⟩ = some (.slice d0 ((rd_T45 l1 b1).f1).length d1):=cz b6 1;have x0:=blk_frozen b6.out 0;have x2:=blk_frozen b6.out 1));try go_wp2_with (first | ((with_reducible refine gate_dst (N:=12) rfl ?_);refine box_event ?hg (N:=12) ?hd (cs:=#[.int .i64 0,.slice none 0 0]) (t:=45) ?hr ?_;(case hd=>rfl);(case hg=>rfl);(case hr=>first | (go_simp;done) | (go_simp;rfl));intro b7 hg E5 hbox hb;have b6:=A_ hbox;have h0:=gw hg HB;have i9:=h0;have b9:=nl hg b2;have d6:=ng hg b2;have b4:=nl hg b3;have d7:=ng hg b3;replace d2:=rB d2 hb;replace b0:=rB b0 hb;replace b2:=kB b2 hb;replace b3:=kB b3 hb;replace HB:=bB HB hb;clear hb hbox hg;have I6:=d6.out;have I7:=b9.out;have I8:=d7.out;have I9:=b4.out;have r5:E5.cell? ⟨b7,0,none⟩ = some (.int .i64 0):=cz b6 0;have r6:E5.cell? ⟨b7,1,none⟩ = some (.slice none 0 0):=cz b6 1;have t5:=blk_frozen b6.out 0;have t6:=blk_frozen b6.out 1;have J0:=e1.out;have J1:=d8.out;have r7:E5.cell? ⟨d4,0,none⟩ = some (d5):=cz b3 0;have t7:=blk_frozen b3.out 0;obtain ⟨E6,z2,E7⟩:=Kd.R_slice b0.out;subst E7) | (go_at_call 80;(with_reducible refine (contains81.calls _ _ ((rd_T45 l1 b1).f1) _ _ b8 false _ d4 (bf2_ b4 b4 b3) ?side1 ?side2 ?side3 ?side4 C1.out).mono ?_);(case side1=>exact Kd.C_below e8.out (bl HB));(case side2=>exact e9.out);(case side3=>refine (Kd.R_reads' (e:=3) (base:=w.heap.size) (ok:=fun k_=>some k_ ≠ (l9:Value).ownBlock) (n:=b8.length) (c:=z2) ?_).2.2;exact (by (with_reducible repeat (first | apply Kd.R_alloc | apply Kd.R_drewN | apply Kd.R_drew));exact (Kd.R_mono (Kd.R_far (p:=⟨b7,1,none⟩) (Kd.R_far (p:=⟨b7,0,none⟩) (Kd.R_types b0.out b6.out (by decide)) (fun _ hk=>hk.2) (.int .i64 ((rd_T45 l1 b1).f0))) (fun _ hk=>hk.2) (.slice d0 ((rd_T45 l1 b1).f1).length d1)) (fun _ h_=>h_.1))));(case side4=>exact (Kd.R_reads' b0.out).2.1);rintro e A7 ⟨rfl,hb⟩;replace d2:=A_ (Kd.R_below (by (with_reducible repeat (first | apply Kd.R_alloc | apply Kd.R_drewN | apply Kd.R_drew));exact (Kd.R_mono (Kd.R_far (p:=⟨b7,1,none⟩) (Kd.R_far (p:=⟨b7,0,none⟩) (Kd.R_types d2.out b6.out (by decide)) (fun _ hk=>hk.2) (.int .i64 ((rd_T45 l1 b1).f0))) (fun _ hk=>hk.2) (.slice d0 ((rd_T45 l1 b1).f1).length d1)) (fun _ h_=>h_.1))) hb);replace b0:=A_ (Kd.R_below (by (with_reducible repeat (first | apply Kd.R_alloc | apply Kd.R_drewN | apply Kd.R_drew));exact (Kd.R_mono (Kd.R_far (p:=⟨b7,1,none⟩) (Kd.R_far (p:=⟨b7,0,none⟩) (Kd.R_types b0.out b6.out (by decide)) (fun _ hk=>hk.2) (.int .i64 ((rd_T45 l1 b1).f0))) (fun _ hk=>hk.2) (.slice d0 ((rd_T45 l1 b1).f1).length d1)) (fun _ h_=>h_.1))) hb);replace b2:=A_ (blk_below (g:=d9) (o:=.cells #[.slice A0 l0.length c0,.slice (some e7) l1.length c1] 109 (0,0)) (bf2_ b9 b9 b2) hb);replace b3:=A_ (blk_below (g:=d4) (o:=.cells #[.slice E6 b8.length z2] 28 (0,0)) (bf2_ b4 b4 b3) hb);replace b6:=A_ (blk_below (g:=b7) (o:=.cells #[.int .i64 ((rd_T45 l1 b1).f0),.slice d0 ((rd_T45 l1 b1).f1).length d1] 45 (0,0)) (by (with_reducible repeat (first | refine blk_drewN ?_ _ | refine blk_drew ?_ | refine blk_alloc ?_ _));refine blk_put (cs:=#[.int .i64 ((rd_T45 l1 b1).f0),.slice none 0 0]) ?_ 1 _ rfl;(with_reducible repeat (first | refine blk_drewN ?_ _ | refine blk_drew ?_ | refine blk_alloc ?_ _));refine blk_put (cs:=#[.int .i64 0,.slice none 0 0]) ?_ 0 _ rfl;(with_reducible repeat (first | refine blk_drewN ?_ _ | refine blk_drew ?_ | refine blk_alloc ?_ _));exact b6.out) hb);replace HB:=bB HB hb;(try clear hb);obtain ⟨O6,O7,E8⟩:=Kd.R_slice d2.out;subst E8;have i2:0 ≤ (b1:Int):=oa_;have i5:b1 < (e0.length:Int):=oa_;obtain ⟨m0,o4,m3⟩:=Kd.at_int (Kd.R_reads' d2.out).2.2 b1 i2 i5;cases o4;replace i2:=eq_true i2;replace i5:=eq_true i5;have r8:A7.cell? ⟨d9,0,none⟩ = some (.slice A0 l0.length c0):=cz b2 0;have r9:A7.cell? ⟨d9,1,none⟩ = some (.slice (some e7) l1.length c1):=cz b2 1;have t8:=blk_frozen b2.out 0;have t9:=blk_frozen b2.out 1;have i3:0 ≤ (b5:Int):=oa_;have i6:b5 < (l1.length:Int):=oa_;obtain ⟨m1,o5,o6,o7,e3,e4,e5,e6⟩:=at_T45 p1.out b5 i3 i6;obtain rfl:e7 = m1:=(by injection o7);replace e3:=cT HB e3;replace e4:=cT HB e4;have n4:=A_ e6;have n5:=A_ e5;clear e6 e5;replace i3:=eq_true i3;replace i6:=eq_true i6;have i4:0 ≤ (b5:Int):=oa_;have i7:b5 < (e0.length:Int):=oa_;obtain ⟨m2,o8,m4⟩:=Kd.at_int (Kd.R_reads' d2.out).2.2 b5 i4 i7;obtain rfl:m0 = m2:=(by injection o8);replace i4:=eq_true i4;replace i7:=eq_true i7;have s0:A7.cell? ⟨b7,0,none⟩ = some (.int .i64 ((rd_T45 l1 b1).f0)):=cz b6 0;have s1:A7.cell? ⟨b7,1,none⟩ = some (.slice d0 ((rd_T45 l1 b1).f1).length d1):=cz b6 1;have x0:=blk_frozen b6.out 0;have x2:=blk_frozen b6.out 1)))
     go_roundg k2
     case measure=>have:=B0.out;have:=C0.out;omega
     case rel=>exact ⟨(b5),(wrap64 (b1 + 1)),rf_,rf_,H',⟨by have:=B0.out;have:=C0.out;omega⟩,⟨kr_ d2⟩,⟨kr_ b0⟩,⟨dr_ b2⟩,⟨dr_ b3⟩,⟨by repeat (first | (with_reducible first | exact HB.out | apply below_alloc | apply pw_below_drewN | apply below_drew1 | refine below_set ?_ l7.out | refine below_set ?_ l8.out | refine below_set ?_ i9.out) | exact HB.out)⟩⟩
mutual
def numnahref07_Portions.l0:Nat → List (S45) → List Int → List Int → Option (List Int)
 | 0,_,_,_=>none
 | k + 1,x1,x5,x6=>numnahref07_Portions.l1 k x1 x5 x6 (-1) 0
def numnahref07_Portions.l1:Nat → List (S45) → List Int → List Int → Int → Int → Option (List Int)
 | 0,_,_,_,_,_=>none
 | k + 1,x1,x5,x6,x7,x8=>if x8 < (x1.length:Int) then (numnahref07_Portions.l2 k x1 x5 x6 x7 x8 true 0) else (if x7 < 0 then (some x5) else (if 0 ≤ x7 then (if x7 < (x5.length:Int) then (numnahref07_Portions.l3 k x1 (x5.set (x7:Int).toNat (wrap64 ((rd x5 x7) + 1))) x6 x7 0) else (none)) else (none)))
def numnahref07_Portions.l2:Nat → List (S45) → List Int → List Int → Int → Int → Bool → Int → Option (List Int)
 | 0,_,_,_,_,_,_,_=>none
 | k + 1,x1,x5,x6,x7,x8,x9,s8=>if 0 ≤ x8 then (if x8 < (x1.length:Int) then (if s8 < (((rd_T45 x1 x8).f1).length:Int) then (if x9 = true then (if 0 ≤ s8 then (if 0 ≤ (rd ((rd_T45 x1 x8).f1) s8) then (if (rd ((rd_T45 x1 x8).f1) s8) < (x6.length:Int) then (numnahref07_Portions.l2 k x1 x5 x6 x7 x8 (decide ((rd x6 (rd ((rd_T45 x1 x8).f1) s8)) > 0)) (wrap64 (s8 + 1))) else (none)) else (none)) else (none)) else (numnahref07_Portions.l2 k x1 x5 x6 x7 x8 false (wrap64 (s8 + 1)))) else (if x9 = true then (if x7 < 0 then (numnahref07_Portions.l1 k x1 x5 x6 x8 (wrap64 (x8 + 1))) else (if x8 < (x5.length:Int) then (if 0 ≤ x7 then (if x7 < (x1.length:Int) then (if x7 < (x5.length:Int) then (if (wrap64 ((wrap64 ((rd x5 x8) + 1)) * ((rd_T45 x1 x7).f0))) < (wrap64 ((wrap64 ((rd x5 x7) + 1)) * ((rd_T45 x1 x8).f0))) then (numnahref07_Portions.l1 k x1 x5 x6 x8 (wrap64 (x8 + 1))) else (numnahref07_Portions.l1 k x1 x5 x6 x7 (wrap64 (x8 + 1)))) else (none)) else (none)) else (none)) else (none))) else (numnahref07_Portions.l1 k x1 x5 x6 x7 (wrap64 (x8 + 1))))) else (none)) else (none)
def numnahref07_Portions.l3:Nat → List (S45) → List Int → List Int → Int → Int → Option (List Int)
 | 0,_,_,_,_,_=>none
 | k + 1,x1,x5,x6,x7,s9=>if 0 ≤ x7 then (if x7 < (x1.length:Int) then (if s9 < (((rd_T45 x1 x7).f1).length:Int) then (if 0 ≤ s9 then (if 0 ≤ (rd ((rd_T45 x1 x7).f1) s9) then (if (rd ((rd_T45 x1 x7).f1) s9) < (x6.length:Int) then (numnahref07_Portions.l3 k x1 x5 (x6.set ((rd ((rd_T45 x1 x7).f1) s9):Int).toNat (wrap64 ((rd x6 (rd ((rd_T45 x1 x7).f1) s9)) - 1))) x7 (wrap64 (s9 + 1))) else (none)) else (none)) else (none)) else (numnahref07_Portions.l0 k x1 x5 x6)) else (none)) else (none)
end
def numnahref07_Portions.f (k:Nat) (l0:List Int) (l1:List (S45)):Option (List Int):=if 0 ≤ (l1.length:Int) then (if ((l1.length:Int):Int).toNat ≤ 35184372088832 then (if ([]:List Int).length + l0.length < 17592186044416 then (numnahref07_Portions.l0 k l1 (List.replicate ((l1.length:Int):Int).toNat 0) (([]:List Int) ++ l0)) else (none)) else (none)) else (none)
theorem numnahref07_Portions.mono_l:∀ k,(∀ y0 y1 y2,LeO (numnahref07_Portions.l0 k y0 y1 y2) (numnahref07_Portions.l0 (k + 1) y0 y1 y2)) ∧ (∀ y0 y1 y2 y3 y4,LeO (numnahref07_Portions.l1 k y0 y1 y2 y3 y4) (numnahref07_Portions.l1 (k + 1) y0 y1 y2 y3 y4)) ∧ (∀ y0 y1 y2 y3 y4 y5 y6,LeO (numnahref07_Portions.l2 k y0 y1 y2 y3 y4 y5 y6) (numnahref07_Portions.l2 (k + 1) y0 y1 y2 y3 y4 y5 y6)) ∧ (∀ y0 y1 y2 y3 y4,LeO (numnahref07_Portions.l3 k y0 y1 y2 y3 y4) (numnahref07_Portions.l3 (k + 1) y0 y1 y2 y3 y4))
 | 0=>⟨fun _ _ _ r h=>by simp [numnahref07_Portions.l0] at h,fun _ _ _ _ _ r h=>by simp [numnahref07_Portions.l1] at h,fun _ _ _ _ _ _ _ r h=>by simp [numnahref07_Portions.l2] at h,fun _ _ _ _ _ r h=>by simp [numnahref07_Portions.l3] at h⟩
 | k + 1=>by
  obtain ⟨n9,o0,o1,o2⟩:=numnahref07_Portions.mono_l k
  refine ⟨?_,?_,?_,?_⟩
  ·intro y0 y1 y2
   unfold numnahref07_Portions.l0
   repeat' first
   | (with_reducible exact n9 _ _ _)
   | (with_reducible exact o0 _ _ _ _ _)
   | (with_reducible exact o1 _ _ _ _ _ _ _)
   | (with_reducible exact o2 _ _ _ _ _)
   | (with_reducible exact LeO.refl _)
   | (with_reducible exact LeO.none _)
   | (with_reducible refine LeO.ite ?_ ?_)
   | (with_reducible refine LeO.bind ?_ (fun _=>?_))
   | exact n9 _ _ _
   | exact o0 _ _ _ _ _
   | exact o1 _ _ _ _ _ _ _
   | exact o2 _ _ _ _ _
   | exact LeO.none _
   | refine LeO.ite ?_ ?_
   | refine LeO.bind ?_ (fun _=>?_)
  ·intro y0 y1 y2 y3 y4
   unfold numnahref07_Portions.l1
   repeat' first
   | (with_reducible exact n9 _ _ _)
   | (with_reducible exact o0 _ _ _ _ _)
   | (with_reducible exact o1 _ _ _ _ _ _ _)
   | (with_reducible exact o2 _ _ _ _ _)
   | (with_reducible exact LeO.refl _)
   | (with_reducible exact LeO.none _)
   | (with_reducible refine LeO.ite ?_ ?_)
   | (with_reducible refine LeO.bind ?_ (fun _=>?_))
   | exact n9 _ _ _
   | exact o0 _ _ _ _ _
   | exact o1 _ _ _ _ _ _ _
   | exact o2 _ _ _ _ _
   | exact LeO.none _
   | refine LeO.ite ?_ ?_
   | refine LeO.bind ?_ (fun _=>?_)
  ·intro y0 y1 y2 y3 y4 y5 y6
   unfold numnahref07_Portions.l2
   repeat' first
   | (with_reducible exact n9 _ _ _)
   | (with_reducible exact o0 _ _ _ _ _)
   | (with_reducible exact o1 _ _ _ _ _ _ _)
   | (with_reducible exact o2 _ _ _ _ _)
   | (with_reducible exact LeO.refl _)
   | (with_reducible exact LeO.none _)
   | (with_reducible refine LeO.ite ?_ ?_)
   | (with_reducible refine LeO.bind ?_ (fun _=>?_))
   | exact n9 _ _ _
   | exact o0 _ _ _ _ _
   | exact o1 _ _ _ _ _ _ _
   | exact o2 _ _ _ _ _
   | exact LeO.none _
   | refine LeO.ite ?_ ?_
   | refine LeO.bind ?_ (fun _=>?_)
  intro y0 y1 y2 y3 y4
  unfold numnahref07_Portions.l3
  repeat' first
  | (with_reducible exact n9 _ _ _)
  | (with_reducible exact o0 _ _ _ _ _)
  | (with_reducible exact o1 _ _ _ _ _ _ _)
  | (with_reducible exact o2 _ _ _ _ _)
  | (with_reducible exact LeO.refl _)
  | (with_reducible exact LeO.none _)
  | (with_reducible refine LeO.ite ?_ ?_)
  | (with_reducible refine LeO.bind ?_ (fun _=>?_))
  | exact n9 _ _ _
  | exact o0 _ _ _ _ _
  | exact o1 _ _ _ _ _ _ _
  | exact o2 _ _ _ _ _
  | exact LeO.none _
  | refine LeO.ite ?_ ?_
  | refine LeO.bind ?_ (fun _=>?_)
theorem numnahref07_Portions.mono:∀ a0 a1 k,LeO (numnahref07_Portions.f k a0 a1) (numnahref07_Portions.f (k + 1) a0 a1):=by
 intro a0 a1 k
 obtain ⟨n9,o0,o1,o2⟩:=numnahref07_Portions.mono_l k
 unfold numnahref07_Portions.f
 repeat' first
   | (with_reducible exact n9 _ _ _)
   | (with_reducible exact o0 _ _ _ _ _)
   | (with_reducible exact o1 _ _ _ _ _ _ _)
   | (with_reducible exact o2 _ _ _ _ _)
   | (with_reducible exact LeO.refl _)
   | (with_reducible exact LeO.none _)
   | (with_reducible refine LeO.ite ?_ ?_)
   | (with_reducible refine LeO.bind ?_ (fun _=>?_))
   | exact n9 _ _ _
   | exact o0 _ _ _ _ _
   | exact o1 _ _ _ _ _ _ _
   | exact o2 _ _ _ _ _
   | exact LeO.none _
   | refine LeO.ite ?_ ?_
   | refine LeO.bind ?_ (fun _=>?_)
theorem numnahref07_Portions.calls (k:Nat) (A0:Option Addr) (c0:Nat) (l0:List Int) (A1:Option Addr) (c1:Nat) (l1:List (S45)) (r:List Int) (w:World) (H9:Kd.C (Kd.int .i64) w A0 l0.length l0) (I0:l0.length ≤ c0) (I1:Kd.C k45 w A1 l1.length l1) (I2:l1.length ≤ c1) (h:numnahref07_Portions.f k l0 l1 = some r) :
  Calls Try.prog 47 #[.slice A0 l0.length c0,.slice A1 l1.length c1] w fun e w'=>∃ I3:Value,e = .returned (I3) ∧ Kd.R (Kd.int .i64) 3 w' w.heap.size (fun _=>True) I3 r ∧ Below w.heap.size w w':=by
 have F4:=A_ H9
 have L0:=A_ I0
 clear H9 I0
 have m9:=A_ I1
 have L1:=A_ I2
 clear I1 I2
 have HB:=A_ (Below.refl w.heap.size w)
 have H:(if 0 ≤ (l1.length:Int) then (if ((l1.length:Int):Int).toNat ≤ 35184372088832 then (if ([]:List Int).length + l0.length < 17592186044416 then (numnahref07_Portions.l0 k l1 (List.replicate ((l1.length:Int):Int).toNat 0) (([]:List Int) ++ l0)) else (none)) else (none)) else (none)) = some r:=h
 clear h
 by_cases c3:0 ≤ (l1.length:Int)
 case neg =>
  rw [if_neg c3] at H
  exact absurd H (by simp)
 rw [if_pos c3] at H
 have p8:=eq_true c3
 have q0:decide (0 ≤ (l1.length:Int)) = true:=decide_eq_true c3
 clear c3
 by_cases c4:((l1.length:Int):Int).toNat ≤ 35184372088832
 case neg =>
  rw [if_neg c4] at H
  exact absurd H (by simp)
 rw [if_pos c4] at H
 have q1:=eq_true c4
 have q2:decide (((l1.length:Int):Int).toNat ≤ 35184372088832) = true:=decide_eq_true c4
 clear c4
 obtain ⟨t0,i9⟩:∃ y_:List Int,y_ = (List.replicate ((l1.length:Int):Int).toNat 0):=⟨_,rfl⟩
 replace H:(if ([]:List Int).length + l0.length < 17592186044416 then (numnahref07_Portions.l0 k l1 t0 (([]:List Int) ++ l0)) else (none)) = some r:=by first | (rw [i9];with_reducible exact H) | (have m6:=(Option.bind_some _ _).symm.trans H;rw [i9];with_reducible exact m6) | (have m6:=(Option.bind_some _ _).symm.trans H;with_reducible exact m6) | with_reducible exact H | (rw [i9];exact H) | exact H
 have i4:=A_ i9
 clear i9
 by_cases c5:([]:List Int).length + l0.length < 17592186044416
 case neg =>
  rw [if_neg c5] at H
  exact absurd H (by simp)
 rw [if_pos c5] at H
 have t1:=A_ c5
 clear c5
 obtain ⟨A3,j5⟩:∃ y_:List Int,y_ = (([]:List Int) ++ l0):=⟨_,rfl⟩
 replace H:(numnahref07_Portions.l0 k l1 t0 A3) = some r:=by first | (rw [j5];with_reducible exact H) | (have m6:=(Option.bind_some _ _).symm.trans H;rw [j5];with_reducible exact m6) | (have m6:=(Option.bind_some _ _).symm.trans H;with_reducible exact m6) | with_reducible exact H | (rw [j5];exact H) | exact H
 have o3:=A_ j5
 clear j5
 have H':=A_ H
 clear H
 go_enter Try.func47,Try.ntmps47
 go_wp2_with (first | ((with_reducible refine gate_dst (N:=15) rfl ?_);refine Kd.R_make (Kd.int .i64) _ 3 rfl (N:=15) rfl 28 _ _ rfl (l1.length:Int) rfl rfl Try.underlying28 (.int .i64 0) 8 info3 rfl (by decide) (by omega) 0 (ok:=fun _=>True) (okp:=fun _=>True) rfl (fun _ hk=>hk) trivial oa_ (Nat.le_trans (Nat.mul_le_mul_right _ (oa_:(l1.length:Int).toNat ≤ 35184372088832)) (by omega)) (Below.refl _ _) (Nat.le_refl _) ?_;intro e4 w6 j7 hb hg_ hnew_;clear hg_ hnew_;(first | rw [← i4.out] at j7 | (simp only [Int.reduceToNat] at j7;rw [← i4.out] at j7));have d7:=A_ (Kd.R_lower j7 (below_size (bl HB)));replace HB:=bB HB hb;clear hb j7) | ((with_reducible refine gate_builtin (b:=.append) (xs:=#[.tmp 16,.tmp 17]) rfl ?_);at_builtin;refine Kd.R_append_rows (Kd.int .i64) (w0:=w) w.heap.size rfl (.tmp 16) (.tmp 17) 28 3 (.int .i64 0) 8 rfl Try.underlying28 info3 rfl (by decide) (by omega) (.slice none 0 0) ([]:List Int) l0 _ _ _ (fun k_=>some k_ ≠ (e4:Value).ownBlock) (fun _=>False) rfl rfl ?aO ?aR (fun _ _ h=>h) (fun _ h=>h.elim) ?aF ?aB ?aS ?aL ?_;(case aR=>exact kc_ (Kd.C_below F4.out HB.out));(case aB=>exact (bl HB));(case aF=>exact (fun k_ hk=>Kd.fresh' (Kd.R_lt (rs d7)) k_ hk));(case aO=>exact ((Kd.R_nil _ _ _ _ (fun k_=>some k_ ≠ (e4:Value).ownBlock))));(case aS=>exact (below_size (bl HB)));(case aL=>have:=t1.out;omega);intro h6 w8 ho hb hg hat;rw [← o3.out] at ho;have o4:=A_ ho;replace d7:=A_ (Kd.R_after (Kd.R_apart_nil (rs d7)) hg hat);replace HB:=A_ hb;clear ho hb hg hat))
 repeat (go_quiet (first | ((with_reducible refine gate_dst (N:=15) rfl ?_);refine Kd.R_make (Kd.int .i64) _ 3 rfl (N:=15) rfl 28 _ _ rfl (l1.length:Int) rfl rfl Try.underlying28 (.int .i64 0) 8 info3 rfl (by decide) (by omega) 0 (ok:=fun _=>True) (okp:=fun _=>True) rfl (fun _ hk=>hk) trivial oa_ (Nat.le_trans (Nat.mul_le_mul_right _ (oa_:(l1.length:Int).toNat ≤ 35184372088832)) (by omega)) (Below.refl _ _) (Nat.le_refl _) ?_;intro e4 w6 j7 hb hg_ hnew_;clear hg_ hnew_;(first | rw [← i4.out] at j7 | (simp only [Int.reduceToNat] at j7;rw [← i4.out] at j7));have d7:=A_ (Kd.R_lower j7 (below_size (bl HB)));replace HB:=bB HB hb;clear hb j7) | ((with_reducible refine gate_builtin (b:=.append) (xs:=#[.tmp 16,.tmp 17]) rfl ?_);at_builtin;refine Kd.R_append_rows (Kd.int .i64) (w0:=w) w.heap.size rfl (.tmp 16) (.tmp 17) 28 3 (.int .i64 0) 8 rfl Try.underlying28 info3 rfl (by decide) (by omega) (.slice none 0 0) ([]:List Int) l0 _ _ _ (fun k_=>some k_ ≠ (e4:Value).ownBlock) (fun _=>False) rfl rfl ?aO ?aR (fun _ _ h=>h) (fun _ h=>h.elim) ?aF ?aB ?aS ?aL ?_;(case aR=>exact kc_ (Kd.C_below F4.out HB.out));(case aB=>exact (bl HB));(case aF=>exact (fun k_ hk=>Kd.fresh' (Kd.R_lt (rs d7)) k_ hk));(case aO=>exact ((Kd.R_nil _ _ _ _ (fun k_=>some k_ ≠ (e4:Value).ownBlock))));(case aS=>exact (below_size (bl HB)));(case aL=>have:=t1.out;omega);intro h6 w8 ho hb hg hat;rw [← o3.out] at ho;have o4:=A_ ho;replace d7:=A_ (Kd.R_after (Kd.R_apart_nil (rs d7)) hg hat);replace HB:=A_ hb;clear ho hb hg hat));try go_wp2_with (first | ((with_reducible refine gate_dst (N:=15) rfl ?_);refine Kd.R_make (Kd.int .i64) _ 3 rfl (N:=15) rfl 28 _ _ rfl (l1.length:Int) rfl rfl Try.underlying28 (.int .i64 0) 8 info3 rfl (by decide) (by omega) 0 (ok:=fun _=>True) (okp:=fun _=>True) rfl (fun _ hk=>hk) trivial oa_ (Nat.le_trans (Nat.mul_le_mul_right _ (oa_:(l1.length:Int).toNat ≤ 35184372088832)) (by omega)) (Below.refl _ _) (Nat.le_refl _) ?_;intro e4 w6 j7 hb hg_ hnew_;clear hg_ hnew_;(first | rw [← i4.out] at j7 | (simp only [Int.reduceToNat] at j7;rw [← i4.out] at j7));have d7:=A_ (Kd.R_lower j7 (below_size (bl HB)));replace HB:=bB HB hb;clear hb j7) | ((with_reducible refine gate_builtin (b:=.append) (xs:=#[.tmp 16,.tmp 17]) rfl ?_);at_builtin;refine Kd.R_append_rows (Kd.int .i64) (w0:=w) w.heap.size rfl (.tmp 16) (.tmp 17) 28 3 (.int .i64 0) 8 rfl Try.underlying28 info3 rfl (by decide) (by omega) (.slice none 0 0) ([]:List Int) l0 _ _ _ (fun k_=>some k_ ≠ (e4:Value).ownBlock) (fun _=>False) rfl rfl ?aO ?aR (fun _ _ h=>h) (fun _ h=>h.elim) ?aF ?aB ?aS ?aL ?_;(case aR=>exact kc_ (Kd.C_below F4.out HB.out));(case aB=>exact (bl HB));(case aF=>exact (fun k_ hk=>Kd.fresh' (Kd.R_lt (rs d7)) k_ hk));(case aO=>exact ((Kd.R_nil _ _ _ _ (fun k_=>some k_ ≠ (e4:Value).ownBlock))));(case aS=>exact (below_size (bl HB)));(case aL=>have:=t1.out;omega);intro h6 w8 ho hb hg hat;rw [← o3.out] at ho;have o4:=A_ ho;replace d7:=A_ (Kd.R_after (Kd.R_apart_nil (rs d7)) hg hat);replace HB:=A_ hb;clear ho hb hg hat)))
 go_loopg [] k (fun kq w'=>∃ (b3:List Int) (d5:List Int),Aside0 (numnahref07_Portions.l0 kq l1 b3 d5 = some r) ∧ Aside0 (kq ≤ k) ∧ Aside0 (Kd.R (Kd.int .i64) 3 w' w.heap.size (fun k_=>some k_ ≠ (h6:Value).ownBlock) e4 b3) ∧ Aside0 (Kd.R (Kd.int .i64) 3 w' w.heap.size (fun k_=>some k_ ≠ (e4:Value).ownBlock) h6 d5) ∧ Aside0 (Below w.heap.size w w'))
 case atStart=>exact ⟨(t0),(A3),H',⟨Nat.le_refl _⟩,⟨by (with_reducible repeat (first | apply Kd.R_alloc | apply Kd.R_drewN | apply Kd.R_drew));exact Kd.R_mono d7.out (fun _ hk=>hk.2)⟩,⟨kr_ o4⟩,⟨by repeat (first | (with_reducible first | exact HB.out | apply below_alloc | apply pw_below_drewN | apply below_drew1) | exact HB.out)⟩⟩
 case round =>
  clear H'
  try clear c1
  try clear p2
  try clear c3
  try clear p8
  try clear q0
  try clear c4
  try clear q1
  try clear q2
  try clear c5
  obtain ⟨b3,d5,HA,m4,b5,b7,HB⟩:=hrel
  cases gk with
  | zero=>exact absurd HA.out (by simp [numnahref07_Portions.l0])
  | succ k1 =>
   have H:=HA.out
   clear HA
   simp only [numnahref07_Portions.l0] at H
   have H':=A_ H
   clear H
   go_wp2
   repeat (go_quiet (fail);try go_wp2)
   go_loopg [7,8] k1 (fun kq v7 v8 w'=>∃ (b0:Int) (b1:Int),v7 = .int .i64 b0 ∧ v8 = .int .i64 b1 ∧ Aside0 (numnahref07_Portions.l1 kq l1 b3 d5 b0 b1 = some r) ∧ Aside0 (kq ≤ k1) ∧ Aside0 (Kd.R (Kd.int .i64) 3 w' w.heap.size (fun k_=>some k_ ≠ (h6:Value).ownBlock) e4 b3) ∧ Aside0 (Kd.R (Kd.int .i64) 3 w' w.heap.size (fun k_=>some k_ ≠ (e4:Value).ownBlock) h6 d5) ∧ Aside0 (Below w.heap.size w w'))
   case atStart=>exact ⟨((-1)),(0),rf_,rf_,H',⟨Nat.le_refl _⟩,⟨kr_ b5⟩,⟨kr_ b7⟩,⟨by repeat (first | (with_reducible first | exact HB.out | apply below_alloc | apply pw_below_drewN | apply below_drew1) | exact HB.out)⟩⟩
   case round =>
    clear H'
    try clear c1
    try clear p2
    try clear c3
    try clear p8
    try clear q0
    try clear c4
    try clear q1
    try clear q2
    try clear c5
    try clear p2
    obtain ⟨b0,b1,rfl,rfl,HA,m5,b5,b7,HB⟩:=hrel
    cases gk with
    | zero=>exact absurd HA.out (by simp [numnahref07_Portions.l1])
    | succ k2 =>
     have H:=HA.out
     clear HA
     simp only [numnahref07_Portions.l1] at H
     by_cases c9:b1 < (l1.length:Int)
     ·rw [if_pos c9] at H
      have t2:decide (b1 < (l1.length:Int)) = true:=decide_eq_true c9
      clear c9
      have H':=A_ H
      clear H
      go_wp2
      repeat (go_quiet (fail);try go_wp2)
      go_loopg [9,10] k2 (fun kq v9 J4 w'=>∃ (o5:Bool) (d0:Int),v9 = .bool o5 ∧ J4 = .int .i64 d0 ∧ Aside0 (numnahref07_Portions.l2 kq l1 b3 d5 b0 b1 o5 d0 = some r) ∧ Aside0 (kq ≤ k2) ∧ Aside0 (Kd.R (Kd.int .i64) 3 w' w.heap.size (fun k_=>some k_ ≠ (h6:Value).ownBlock) e4 b3) ∧ Aside0 (Kd.R (Kd.int .i64) 3 w' w.heap.size (fun k_=>some k_ ≠ (e4:Value).ownBlock) h6 d5) ∧ Aside0 (Below w.heap.size w w'))
      case atStart=>exact ⟨(true),(0),rf_,rf_,H',⟨Nat.le_refl _⟩,⟨kr_ b5⟩,⟨kr_ b7⟩,⟨by repeat (first | (with_reducible first | exact HB.out | apply below_alloc | apply pw_below_drewN | apply below_drew1) | exact HB.out)⟩⟩
      case round =>
       clear H'
       try clear c1
       try clear p2
       try clear c3
       try clear p8
       try clear q0
       try clear c4
       try clear q1
       try clear q2
       try clear c5
       try clear c9
       try clear t2
       try clear p2
       obtain ⟨o5,d0,rfl,rfl,HA,j8,b5,b7,HB⟩:=hrel
       cases gk with
       | zero=>exact absurd HA.out (by simp [numnahref07_Portions.l2])
       | succ k3 =>
        have H:=HA.out
        clear HA
        simp only [numnahref07_Portions.l2] at H
        by_cases c10:0 ≤ b1
        case neg =>
         rw [if_neg c10] at H
         exact absurd H (by simp)
        rw [if_pos c10] at H
        have A4:decide (0 ≤ b1) = true:=decide_eq_true c10
        clear c10
        by_cases A5:b1 < (l1.length:Int)
        case neg =>
         rw [if_neg A5] at H
         exact absurd H (by simp)
        rw [if_pos A5] at H
        have A6:decide (b1 < (l1.length:Int)) = true:=decide_eq_true A5
        clear A5
        by_cases t3:d0 < (((rd_T45 l1 b1).f1).length:Int)
        ·rw [if_pos t3] at H
         have s3:decide (d0 < (((rd_T45 l1 b1).f1).length:Int)) = true:=decide_eq_true t3
         clear t3
         by_cases A7:o5 = true
         case neg =>
          replace A7:=Bool.eq_false_iff.mpr A7
          subst A7
          have H1:(numnahref07_Portions.l2 k3 l1 b3 d5 b0 b1 false (wrap64 (d0 + 1))) = some r:=by rw [if_neg (show ¬ (false = true) by decide)] at H;exact H
          clear H
          have H:=H1
          clear H1
          have H':=A_ H
          clear H
          have d2:0 ≤ (b1:Int):=oa_
          have d3:b1 < (l1.length:Int):=oa_
          obtain ⟨e2,i0,i1,i2,b6,b4,b8,b9⟩:=at_T45 m9.out b1 d2 d3
          cases i2
          replace b6:=cT HB b6
          replace b4:=cT HB b4
          have e5:=A_ b9
          have e6:=A_ b8
          clear b9 b8
          replace d2:=eq_true d2
          replace d3:=eq_true d3
          go_wp2
          repeat (go_quiet (fail);try go_wp2)
          go_roundg k3
          case measure=>have:=m4.out;have:=m5.out;have:=j8.out;omega
          case rel=>exact ⟨(false),(wrap64 (d0 + 1)),rf_,rf_,H',⟨by have:=m4.out;have:=m5.out;have:=j8.out;omega⟩,⟨kr_ b5⟩,⟨kr_ b7⟩,⟨by repeat (first | (with_reducible first | exact HB.out | apply below_alloc | apply pw_below_drewN | apply below_drew1) | exact HB.out)⟩⟩
         subst A7
         have H1:(if 0 ≤ d0 then (if 0 ≤ (rd ((rd_T45 l1 b1).f1) d0) then (if (rd ((rd_T45 l1 b1).f1) d0) < (d5.length:Int) then (numnahref07_Portions.l2 k3 l1 b3 d5 b0 b1 (decide ((rd d5 (rd ((rd_T45 l1 b1).f1) d0)) > 0)) (wrap64 (d0 + 1))) else (none)) else (none)) else (none)) = some r:=by rw [if_pos rfl] at H;exact H
         clear H
         have H:=H1
         clear H1
         by_cases A8:0 ≤ d0
         case neg =>
          rw [if_neg A8] at H
          exact absurd H (by simp)
         rw [if_pos A8] at H
         have A9:decide (0 ≤ d0) = true:=decide_eq_true A8
         clear A8
         by_cases B0:0 ≤ (rd ((rd_T45 l1 b1).f1) d0)
         case neg =>
          rw [if_neg B0] at H
          exact absurd H (by simp)
         rw [if_pos B0] at H
         have C0:decide (0 ≤ (rd ((rd_T45 l1 b1).f1) d0)) = true:=decide_eq_true B0
         clear B0
         by_cases C1:(rd ((rd_T45 l1 b1).f1) d0) < (d5.length:Int)
         case neg =>
          rw [if_neg C1] at H
          exact absurd H (by simp)
         rw [if_pos C1] at H
         have C2:decide ((rd ((rd_T45 l1 b1).f1) d0) < (d5.length:Int)) = true:=decide_eq_true C1
         clear C1
         have H':=A_ H
         clear H
         have d2:0 ≤ (b1:Int):=oa_
         have d3:b1 < (l1.length:Int):=oa_
         obtain ⟨e2,i0,i1,i2,b6,b4,b8,b9⟩:=at_T45 m9.out b1 d2 d3
         cases i2
         replace b6:=cT HB b6
         replace b4:=cT HB b4
         have e5:=A_ b9
         have e6:=A_ b8
         clear b9 b8
         replace d2:=eq_true d2
         replace d3:=eq_true d3
         have q4:0 ≤ (b1:Int):=oa_
         have q5:b1 < (l1.length:Int):=oa_
         obtain ⟨C3,F5,F6,F7,i5,h9,n0,n1⟩:=at_T45 m9.out b1 q4 q5
         obtain rfl:e2 = C3:=(by injection F7)
         replace i5:=cT HB i5
         replace h9:=cT HB h9
         have q6:=A_ n1
         have E7:=A_ n0
         clear n1 n0
         replace q4:=eq_true q4
         replace q5:=eq_true q5
         have ea_:=Option.some.inj (b4.symm.trans h9)
         injection ea_ with ea_ en_ ec_
         subst ea_
         subst ec_
         clear en_
         have q7:0 ≤ (d0:Int):=oa_
         have q8:d0 < (((rd_T45 l1 b1).f1).length:Int):=oa_
         obtain ⟨I4,F8,i6⟩:=Kd.at_int q6.out d0 q7 q8
         cases F8
         replace i6:=cT HB i6
         replace q7:=eq_true q7
         replace q8:=eq_true q8
         obtain ⟨J5,J6,F9⟩:=Kd.R_slice b7.out
         subst F9
         have r0:0 ≤ ((rd ((rd_T45 l1 b1).f1) d0):Int):=oa_
         have r1:(rd ((rd_T45 l1 b1).f1) d0) < (d5.length:Int):=oa_
         obtain ⟨I5,G0,r2⟩:=Kd.at_int (Kd.R_reads' b7.out).2.2 (rd ((rd_T45 l1 b1).f1) d0) r0 r1
         cases G0
         replace r0:=eq_true r0
         replace r1:=eq_true r1
         go_wp2
         repeat (go_quiet (fail);try go_wp2)
         go_roundg k3
         case measure=>have:=m4.out;have:=m5.out;have:=j8.out;omega
         case rel=>exact ⟨(decide ((rd d5 (rd ((rd_T45 l1 b1).f1) d0)) > 0)),(wrap64 (d0 + 1)),rf_,rf_,H',⟨by have:=m4.out;have:=m5.out;have:=j8.out;omega⟩,⟨kr_ b5⟩,⟨kr_ b7⟩,⟨by repeat (first | (with_reducible first | exact HB.out | apply below_alloc | apply pw_below_drewN | apply below_drew1) | exact HB.out)⟩⟩
        rw [if_neg t3] at H
        have s3:decide (d0 < (((rd_T45 l1 b1).f1).length:Int)) = false:=decide_eq_false t3
        clear t3
        by_cases C4:o5 = true
        case neg =>
         replace C4:=Bool.eq_false_iff.mpr C4
         subst C4
         have H1:(numnahref07_Portions.l1 k3 l1 b3 d5 b0 (wrap64 (b1 + 1))) = some r:=by rw [if_neg (show ¬ (false = true) by decide)] at H;exact H
         clear H
         have H:=H1
         clear H1
         have H':=A_ H
         clear H
         have d2:0 ≤ (b1:Int):=oa_
         have d3:b1 < (l1.length:Int):=oa_
         obtain ⟨e2,i0,i1,i2,b6,b4,b8,b9⟩:=at_T45 m9.out b1 d2 d3
         cases i2
         replace b6:=cT HB b6
         replace b4:=cT HB b4
         have e5:=A_ b9
         have e6:=A_ b8
         clear b9 b8
         replace d2:=eq_true d2
         replace d3:=eq_true d3
         go_wp2
         repeat (go_quiet (fail);try go_wp2)
         go_roundg k3
         case measure=>have:=m4.out;have:=m5.out;have:=j8.out;omega
         case rel=>exact ⟨(b0),(wrap64 (b1 + 1)),rf_,rf_,H',⟨by have:=m4.out;have:=m5.out;have:=j8.out;omega⟩,⟨kr_ b5⟩,⟨kr_ b7⟩,⟨by repeat (first | (with_reducible first | exact HB.out | apply below_alloc | apply pw_below_drewN | apply below_drew1) | exact HB.out)⟩⟩
        subst C4
        have H1:(if b0 < 0 then (numnahref07_Portions.l1 k3 l1 b3 d5 b1 (wrap64 (b1 + 1))) else (if b1 < (b3.length:Int) then (if 0 ≤ b0 then (if b0 < (l1.length:Int) then (if b0 < (b3.length:Int) then (if (wrap64 ((wrap64 ((rd b3 b1) + 1)) * ((rd_T45 l1 b0).f0))) < (wrap64 ((wrap64 ((rd b3 b0) + 1)) * ((rd_T45 l1 b1).f0))) then (numnahref07_Portions.l1 k3 l1 b3 d5 b1 (wrap64 (b1 + 1))) else (numnahref07_Portions.l1 k3 l1 b3 d5 b0 (wrap64 (b1 + 1)))) else (none)) else (none)) else (none)) else (none))) = some r:=by rw [if_pos rfl] at H;exact H
        clear H
        have H:=H1
        clear H1
        by_cases t4:b0 < 0
        ·rw [if_pos t4] at H
         have s4:decide (b0 < 0) = true:=decide_eq_true t4
         clear t4
         have H':=A_ H
         clear H
         have d2:0 ≤ (b1:Int):=oa_
         have d3:b1 < (l1.length:Int):=oa_
         obtain ⟨e2,i0,i1,i2,b6,b4,b8,b9⟩:=at_T45 m9.out b1 d2 d3
         cases i2
         replace b6:=cT HB b6
         replace b4:=cT HB b4
         have e5:=A_ b9
         have e6:=A_ b8
         clear b9 b8
         replace d2:=eq_true d2
         replace d3:=eq_true d3
         go_wp2
         repeat (go_quiet (fail);try go_wp2)
         go_roundg k3
         case measure=>have:=m4.out;have:=m5.out;have:=j8.out;omega
         case rel=>exact ⟨(b1),(wrap64 (b1 + 1)),rf_,rf_,H',⟨by have:=m4.out;have:=m5.out;have:=j8.out;omega⟩,⟨kr_ b5⟩,⟨kr_ b7⟩,⟨by repeat (first | (with_reducible first | exact HB.out | apply below_alloc | apply pw_below_drewN | apply below_drew1) | exact HB.out)⟩⟩
        rw [if_neg t4] at H
        have s4:decide (b0 < 0) = false:=decide_eq_false t4
        clear t4
        by_cases C5:b1 < (b3.length:Int)
        case neg =>
         rw [if_neg C5] at H
         exact absurd H (by simp)
        rw [if_pos C5] at H
        have C6:decide (b1 < (b3.length:Int)) = true:=decide_eq_true C5
        clear C5
        by_cases C7:0 ≤ b0
        case neg =>
         rw [if_neg C7] at H
         exact absurd H (by simp)
        rw [if_pos C7] at H
        have C8:decide (0 ≤ b0) = true:=decide_eq_true C7
        clear C7
        by_cases C9:b0 < (l1.length:Int)
        case neg =>
         rw [if_neg C9] at H
         exact absurd H (by simp)
        rw [if_pos C9] at H
        have D0:decide (b0 < (l1.length:Int)) = true:=decide_eq_true C9
        clear C9
        by_cases D1:b0 < (b3.length:Int)
        case neg =>
         rw [if_neg D1] at H
         exact absurd H (by simp)
        rw [if_pos D1] at H
        have D2:decide (b0 < (b3.length:Int)) = true:=decide_eq_true D1
        clear D1
        by_cases t5:(wrap64 ((wrap64 ((rd b3 b1) + 1)) * ((rd_T45 l1 b0).f0))) < (wrap64 ((wrap64 ((rd b3 b0) + 1)) * ((rd_T45 l1 b1).f0)))
        ·rw [if_pos t5] at H
         have s5:decide ((wrap64 ((wrap64 ((rd b3 b1) + 1)) * ((rd_T45 l1 b0).f0))) < (wrap64 ((wrap64 ((rd b3 b0) + 1)) * ((rd_T45 l1 b1).f0)))) = true:=decide_eq_true t5
         clear t5
         have H':=A_ H
         clear H
         have d2:0 ≤ (b1:Int):=oa_
         have d3:b1 < (l1.length:Int):=oa_
         obtain ⟨e2,i0,i1,i2,b6,b4,b8,b9⟩:=at_T45 m9.out b1 d2 d3
         cases i2
         replace b6:=cT HB b6
         replace b4:=cT HB b4
         have e5:=A_ b9
         have e6:=A_ b8
         clear b9 b8
         replace d2:=eq_true d2
         replace d3:=eq_true d3
         obtain ⟨J7,J8,G1⟩:=Kd.R_slice b5.out
         subst G1
         have j9:0 ≤ (b1:Int):=oa_
         have l5:b1 < (b3.length:Int):=oa_
         obtain ⟨o6,t6,n2⟩:=Kd.at_int (Kd.R_reads' b5.out).2.2 b1 j9 l5
         cases t6
         replace j9:=eq_true j9
         replace l5:=eq_true l5
         have l6:0 ≤ (b0:Int):=oa_
         have l7:b0 < (l1.length:Int):=oa_
         obtain ⟨o7,t7,t8,t9,d8,d9,e7,e8⟩:=at_T45 m9.out b0 l6 l7
         obtain rfl:e2 = o7:=(by injection t9)
         replace d8:=cT HB d8
         replace d9:=cT HB d9
         have r3:=A_ e8
         have r4:=A_ e7
         clear e8 e7
         replace l6:=eq_true l6
         replace l7:=eq_true l7
         have l8:0 ≤ (b0:Int):=oa_
         have l9:b0 < (b3.length:Int):=oa_
         obtain ⟨o8,x0,n3⟩:=Kd.at_int (Kd.R_reads' b5.out).2.2 b0 l8 l9
         obtain rfl:o6 = o8:=(by injection x0)
         replace l8:=eq_true l8
         replace l9:=eq_true l9
         have m0:0 ≤ (b1:Int):=oa_
         have m1:b1 < (l1.length:Int):=oa_
         obtain ⟨o9,x2,x3,x4,e0,d4,e9,h0⟩:=at_T45 m9.out b1 m0 m1
         obtain rfl:e2 = o9:=(by injection x4)
         replace e0:=cT HB e0
         replace d4:=cT HB d4
         have r5:=A_ h0
         have r6:=A_ e9
         clear h0 e9
         replace m0:=eq_true m0
         replace m1:=eq_true m1
         have ea_:=Option.some.inj (b4.symm.trans d4)
         injection ea_ with ea_ en_ ec_
         subst ea_
         subst ec_
         clear en_
         go_wp2
         repeat (go_quiet (fail);try go_wp2)
         go_roundg k3
         case measure=>have:=m4.out;have:=m5.out;have:=j8.out;omega
         case rel=>exact ⟨(b1),(wrap64 (b1 + 1)),rf_,rf_,H',⟨by have:=m4.out;have:=m5.out;have:=j8.out;omega⟩,⟨kr_ b5⟩,⟨kr_ b7⟩,⟨by repeat (first | (with_reducible first | exact HB.out | apply below_alloc | apply pw_below_drewN | apply below_drew1) | exact HB.out)⟩⟩
        rw [if_neg t5] at H
        have s5:decide ((wrap64 ((wrap64 ((rd b3 b1) + 1)) * ((rd_T45 l1 b0).f0))) < (wrap64 ((wrap64 ((rd b3 b0) + 1)) * ((rd_T45 l1 b1).f0)))) = false:=decide_eq_false t5
        clear t5
        have H':=A_ H
        clear H
        have d2:0 ≤ (b1:Int):=oa_
        have d3:b1 < (l1.length:Int):=oa_
        obtain ⟨e2,i0,i1,i2,b6,b4,b8,b9⟩:=at_T45 m9.out b1 d2 d3
        cases i2
        replace b6:=cT HB b6
        replace b4:=cT HB b4
        have e5:=A_ b9
        have e6:=A_ b8
        clear b9 b8
        replace d2:=eq_true d2
        replace d3:=eq_true d3
        obtain ⟨J9,K0,G2⟩:=Kd.R_slice b5.out
        subst G2
        have j9:0 ≤ (b1:Int):=oa_
        have l5:b1 < (b3.length:Int):=oa_
        obtain ⟨o6,t6,n2⟩:=Kd.at_int (Kd.R_reads' b5.out).2.2 b1 j9 l5
        cases t6
        replace j9:=eq_true j9
        replace l5:=eq_true l5
        have l6:0 ≤ (b0:Int):=oa_
        have l7:b0 < (l1.length:Int):=oa_
        obtain ⟨o7,t7,t8,t9,d8,d9,e7,e8⟩:=at_T45 m9.out b0 l6 l7
        obtain rfl:e2 = o7:=(by injection t9)
        replace d8:=cT HB d8
        replace d9:=cT HB d9
        have r3:=A_ e8
        have r4:=A_ e7
        clear e8 e7
        replace l6:=eq_true l6
        replace l7:=eq_true l7
        have l8:0 ≤ (b0:Int):=oa_
        have l9:b0 < (b3.length:Int):=oa_
        obtain ⟨o8,x0,n3⟩:=Kd.at_int (Kd.R_reads' b5.out).2.2 b0 l8 l9
        obtain rfl:o6 = o8:=(by injection x0)
        replace l8:=eq_true l8
        replace l9:=eq_true l9
        have m0:0 ≤ (b1:Int):=oa_
        have m1:b1 < (l1.length:Int):=oa_
        obtain ⟨o9,x2,x3,x4,e0,d4,e9,h0⟩:=at_T45 m9.out b1 m0 m1
        obtain rfl:e2 = o9:=(by injection x4)
        replace e0:=cT HB e0
        replace d4:=cT HB d4
        have r5:=A_ h0
        have r6:=A_ e9
        clear h0 e9
        replace m0:=eq_true m0
        replace m1:=eq_true m1
        have ea_:=Option.some.inj (b4.symm.trans d4)
        injection ea_ with ea_ en_ ec_
        subst ea_
        subst ec_
        clear en_
        go_wp2
        repeat (go_quiet (fail);try go_wp2)
        go_roundg k3
        case measure=>have:=m4.out;have:=m5.out;have:=j8.out;omega
        case rel=>exact ⟨(b0),(wrap64 (b1 + 1)),rf_,rf_,H',⟨by have:=m4.out;have:=m5.out;have:=j8.out;omega⟩,⟨kr_ b5⟩,⟨kr_ b7⟩,⟨by repeat (first | (with_reducible first | exact HB.out | apply below_alloc | apply pw_below_drewN | apply below_drew1) | exact HB.out)⟩⟩
     rw [if_neg c9] at H
     have t2:decide (b1 < (l1.length:Int)) = false:=decide_eq_false c9
     clear c9
     by_cases y7:b0 < 0
     ·rw [if_pos y7] at H
      have s6:decide (b0 < 0) = true:=decide_eq_true y7
      clear y7
      obtain rfl:=Option.some.inj H
      go_wp2
      repeat (go_quiet (fail);try go_wp2)
      go_ret
      exact ⟨_,by first | rfl | (simp [errW_none,errW_some] <;> rfl) | (simp [*,errW_none,errW_some] <;> rfl),by (with_reducible repeat (first | apply Kd.R_alloc | apply Kd.R_drewN | apply Kd.R_drew));exact Kd.R_mono b5.out (fun _ hk=>trivial),by repeat (first | (with_reducible first | exact HB.out | apply below_alloc | apply pw_below_drewN | apply below_drew1) | exact HB.out)⟩
     rw [if_neg y7] at H
     have s6:decide (b0 < 0) = false:=decide_eq_false y7
     clear y7
     by_cases D3:0 ≤ b0
     case neg =>
      rw [if_neg D3] at H
      exact absurd H (by simp)
     rw [if_pos D3] at H
     have D4:decide (0 ≤ b0) = true:=decide_eq_true D3
     clear D3
     by_cases D5:b0 < (b3.length:Int)
     case neg =>
      rw [if_neg D5] at H
      exact absurd H (by simp)
     rw [if_pos D5] at H
     have D6:decide (b0 < (b3.length:Int)) = true:=decide_eq_true D5
     clear D5
     obtain ⟨i3,m2⟩:∃ y_:List Int,y_ = (b3.set (b0:Int).toNat (wrap64 ((rd b3 b0) + 1))):=⟨_,rfl⟩
     replace H:(numnahref07_Portions.l3 k2 l1 i3 d5 b0 0) = some r:=by first | (rw [m2];with_reducible exact H) | (have m6:=(Option.bind_some _ _).symm.trans H;rw [m2];with_reducible exact m6) | (have m6:=(Option.bind_some _ _).symm.trans H;with_reducible exact m6) | with_reducible exact H | (rw [m2];exact H) | exact H
     have p0:=A_ m2
     clear m2
     have H':=A_ H
     clear H
     obtain ⟨K1,h1,G3⟩:=Kd.R_slice b5.out
     subst G3
     have r7:0 ≤ (b0:Int):=oa_
     have r8:b0 < (b3.length:Int):=oa_
     obtain ⟨I6,G4,n4⟩:=Kd.at_int (Kd.R_reads' b5.out).2.2 b0 r7 r8
     cases G4
     replace r7:=eq_true r7
     replace r8:=eq_true r8
     have D7:0 ≤ (b0:Int):=oa_
     have D8:(b0:Int) < ((b3.length:Int):Int):=oa_
     obtain ⟨d6,K2,D9,E0,G5,K3,E1⟩:=Kd.R_form b5.out (by omega)
     (first | cases D9 | (injection D9 with ea_ en_ ec_;(first | subst ea_ | (injection ea_ with ea_;subst ea_));subst ec_;clear en_))
     have y8:=A_ E0
     have K4:=A_ E1
     clear E0 G5 E1
     (first | simp only [add_plain] at n4 | skip)
     obtain ⟨y9,G6⟩:=Kd.R_celln 0 b5.out (b0:Int) D7 D8
     replace D7:=eq_true D7
     replace D8:=eq_true D8
     have h7:=Kd.R_putg b5.out (b0:Int) (wrap64 ((rd b3 b0) + 1))
     go_wp2_with (first | ((with_reducible refine gate_store (t:=3) (p:=91) rfl ?_);(try (rw [drewN_self wr];generalize hq_:World.drewN wr _ = wr;replace b5:=A_ (Kd.R_at hq_ b5.out);replace b7:=A_ (Kd.R_at hq_ b7.out);replace HB:=A_ (below_at hq_ HB.out);clear hq_;(try (have h7:=Kd.R_putg b5.out (b0:Int) (wrap64 ((rd b3 b0) + 1))))));refine store_event (t:=3) (p:=91) (v:=?vo_w33) (w1:=(wr.setCell ⟨d6,(b0:Int).toNat,none⟩ (.int .i64 (wrap64 ((rd b3 b0) + 1))))) ?hg ?ho ?hn ?hr ?_;(case ho=>rfl);(case hg=>rfl);(case hn=>rfl);(case hr=>first | (go_simp;done) | (go_simp;rfl));intro p1 hw;have hg:wr.grownBy p1 (some d6):=(by rw [hw];exact h7.2);have hp_:Kd.R (Kd.int .i64) 3 p1 w.heap.size (fun k_=>some k_ ≠ (h6:Value).ownBlock) (.slice (some ⟨d6,0,none⟩) b3.length h1) i3:=(by rw [hw,p0.out];exact h7.1);clear h7;replace b5:=A_ hp_;replace b7:=A_ (Kd.R_after (v:=(.slice (some ⟨d6,0,none⟩) b3.length h1)) (v1:=(.slice (some ⟨d6,0,none⟩) b3.length h1)) (ok:=(fun _=>True)) (by (with_reducible repeat (first | apply Kd.R_alloc | apply Kd.R_drewN | apply Kd.R_drew));exact Kd.R_mono b7.out (fun _ hk=>⟨trivial,hk⟩)) hg (.inl rfl));replace HB:=A_ ((by rw [hw];exact below_set (HB.out) y8.out:Below w.heap.size w p1));clear hg hw hp_))
     repeat (go_quiet (first | ((with_reducible refine gate_store (t:=3) (p:=91) rfl ?_);(try (rw [drewN_self wr];generalize hq_:World.drewN wr _ = wr;replace b5:=A_ (Kd.R_at hq_ b5.out);replace b7:=A_ (Kd.R_at hq_ b7.out);replace HB:=A_ (below_at hq_ HB.out);clear hq_;(try (have h7:=Kd.R_putg b5.out (b0:Int) (wrap64 ((rd b3 b0) + 1))))));refine store_event (t:=3) (p:=91) (v:=?vo_w33) (w1:=(wr.setCell ⟨d6,(b0:Int).toNat,none⟩ (.int .i64 (wrap64 ((rd b3 b0) + 1))))) ?hg ?ho ?hn ?hr ?_;(case ho=>rfl);(case hg=>rfl);(case hn=>rfl);(case hr=>first | (go_simp;done) | (go_simp;rfl));intro p1 hw;have hg:wr.grownBy p1 (some d6):=(by rw [hw];exact h7.2);have hp_:Kd.R (Kd.int .i64) 3 p1 w.heap.size (fun k_=>some k_ ≠ (h6:Value).ownBlock) (.slice (some ⟨d6,0,none⟩) b3.length h1) i3:=(by rw [hw,p0.out];exact h7.1);clear h7;replace b5:=A_ hp_;replace b7:=A_ (Kd.R_after (v:=(.slice (some ⟨d6,0,none⟩) b3.length h1)) (v1:=(.slice (some ⟨d6,0,none⟩) b3.length h1)) (ok:=(fun _=>True)) (by (with_reducible repeat (first | apply Kd.R_alloc | apply Kd.R_drewN | apply Kd.R_drew));exact Kd.R_mono b7.out (fun _ hk=>⟨trivial,hk⟩)) hg (.inl rfl));replace HB:=A_ ((by rw [hw];exact below_set (HB.out) y8.out:Below w.heap.size w p1));clear hg hw hp_));try go_wp2_with (first | ((with_reducible refine gate_store (t:=3) (p:=91) rfl ?_);(try (rw [drewN_self wr];generalize hq_:World.drewN wr _ = wr;replace b5:=A_ (Kd.R_at hq_ b5.out);replace b7:=A_ (Kd.R_at hq_ b7.out);replace HB:=A_ (below_at hq_ HB.out);clear hq_;(try (have h7:=Kd.R_putg b5.out (b0:Int) (wrap64 ((rd b3 b0) + 1))))));refine store_event (t:=3) (p:=91) (v:=?vo_w33) (w1:=(wr.setCell ⟨d6,(b0:Int).toNat,none⟩ (.int .i64 (wrap64 ((rd b3 b0) + 1))))) ?hg ?ho ?hn ?hr ?_;(case ho=>rfl);(case hg=>rfl);(case hn=>rfl);(case hr=>first | (go_simp;done) | (go_simp;rfl));intro p1 hw;have hg:wr.grownBy p1 (some d6):=(by rw [hw];exact h7.2);have hp_:Kd.R (Kd.int .i64) 3 p1 w.heap.size (fun k_=>some k_ ≠ (h6:Value).ownBlock) (.slice (some ⟨d6,0,none⟩) b3.length h1) i3:=(by rw [hw,p0.out];exact h7.1);clear h7;replace b5:=A_ hp_;replace b7:=A_ (Kd.R_after (v:=(.slice (some ⟨d6,0,none⟩) b3.length h1)) (v1:=(.slice (some ⟨d6,0,none⟩) b3.length h1)) (ok:=(fun _=>True)) (by (with_reducible repeat (first | apply Kd.R_alloc | apply Kd.R_drewN | apply Kd.R_drew));exact Kd.R_mono b7.out (fun _ hk=>⟨trivial,hk⟩)) hg (.inl rfl));replace HB:=A_ ((by rw [hw];exact below_set (HB.out) y8.out:Below w.heap.size w p1));clear hg hw hp_)))
     go_loopg [11] k2 (fun kq K5 w'=>∃ (d1:List Int) (b2:Int),K5 = .int .i64 b2 ∧ Aside0 (numnahref07_Portions.l3 kq l1 i3 d1 b0 b2 = some r) ∧ Aside0 (kq ≤ k2) ∧ Aside0 (Kd.R (Kd.int .i64) 3 w' w.heap.size (fun k_=>some k_ ≠ (h6:Value).ownBlock) (.slice (some ⟨d6,0,none⟩) b3.length h1) i3) ∧ Aside0 (Kd.R (Kd.int .i64) 3 w' w.heap.size (fun k_=>some k_ ≠ ((.slice (some ⟨d6,0,none⟩) b3.length h1):Value).ownBlock) h6 d1) ∧ Aside0 (Below w.heap.size w w'))
     case atStart=>exact ⟨(d5),(0),rf_,H',⟨Nat.le_refl _⟩,⟨kr_ b5⟩,⟨by (with_reducible repeat (first | apply Kd.R_alloc | apply Kd.R_drewN | apply Kd.R_drew));exact Kd.R_mono b7.out (fun _ hk=>hk.2)⟩,⟨by repeat (first | (with_reducible first | exact HB.out | apply below_alloc | apply pw_below_drewN | apply below_drew1) | exact HB.out)⟩⟩
     case round =>
      clear H'
      try clear c1
      try clear c2
      try clear p2
      try clear c3
      try clear p8
      try clear q0
      try clear p3
      try clear q3
      try clear hx3
      try clear hf3
      try clear c4
      try clear q1
      try clear q2
      try clear c5
      try clear p6
      try clear c9
      try clear t2
      try clear p9
      try clear q9
      try clear hx9
      try clear c10
      try clear A4
      try clear A5
      try clear A6
      try clear t3
      try clear s3
      try clear A7
      try clear A8
      try clear A9
      try clear B0
      try clear C0
      try clear C1
      try clear C2
      try clear C4
      try clear t4
      try clear s4
      try clear C5
      try clear C6
      try clear C7
      try clear C8
      try clear C9
      try clear D0
      try clear D1
      try clear D2
      try clear t5
      try clear s5
      try clear y7
      try clear s6
      try clear D3
      try clear D4
      try clear D5
      try clear D6
      try clear D7
      try clear D8
      try clear hx30
      try clear hf30
      try clear y9
      try clear b6
      try clear b4
      try clear i5
      try clear h9
      try clear i6
      try clear r2
      try clear n2
      try clear d8
      try clear d9
      try clear n3
      try clear e0
      try clear d4
      try clear n4
      try clear p2
      try clear D7
      try clear d2
      try clear q4
      try clear q7
      try clear r0
      try clear j9
      try clear l6
      try clear l8
      try clear m0
      try clear r7
      try clear D8
      try clear d3
      try clear q5
      try clear q8
      try clear r1
      try clear l5
      try clear l7
      try clear l9
      try clear m1
      try clear r8
      obtain ⟨d1,b2,rfl,HA,j8,b5,b7,HB⟩:=hrel
      have h2:=(Kd.R_reads' b5.out).1
      rw [h2] at b5
      (try simp only [h2])
      (try simp only [h2] at b7)
      cases gk with
      | zero=>exact absurd HA.out (by simp [numnahref07_Portions.l3])
      | succ k3 =>
       have H:=HA.out
       clear HA
       simp only [numnahref07_Portions.l3] at H
       by_cases E8:0 ≤ b0
       case neg =>
        rw [if_neg E8] at H
        exact absurd H (by simp)
       rw [if_pos E8] at H
       have I7:decide (0 ≤ b0) = true:=decide_eq_true E8
       clear E8
       by_cases E9:b0 < (l1.length:Int)
       case neg =>
        rw [if_neg E9] at H
        exact absurd H (by simp)
       rw [if_pos E9] at H
       have I8:decide (b0 < (l1.length:Int)) = true:=decide_eq_true E9
       clear E9
       by_cases A2:b2 < (((rd_T45 l1 b0).f1).length:Int)
       case neg =>
        rw [if_neg A2] at H
        have E2:decide (b2 < (((rd_T45 l1 b0).f1).length:Int)) = false:=decide_eq_false A2
        clear A2
        have H':=A_ H
        clear H
        have m7:0 ≤ (b0:Int):=oa_
        have m8:b0 < (l1.length:Int):=oa_
        obtain ⟨s7,z0,z1,z2,h3,e1,h4,h5⟩:=at_T45 m9.out b0 m7 m8
        cases z2
        replace h3:=cT HB h3
        replace e1:=cT HB e1
        have r9:=A_ h5
        have s0:=A_ h4
        clear h5 h4
        replace m7:=eq_true m7
        replace m8:=eq_true m8
        go_wp2
        repeat (go_quiet (fail);try go_wp2)
        (try simp only [← h2])
        go_roundg k3
        case measure=>have:=m4.out;have:=m5.out;have:=j8.out;omega
        case rel=>exact ⟨(i3),(d1),H',⟨by have:=m4.out;have:=m5.out;have:=j8.out;omega⟩,⟨by (try simp only [h2]);(with_reducible repeat (first | apply Kd.R_alloc | apply Kd.R_drewN | apply Kd.R_drew));exact b5.out⟩,⟨by (try simp only [h2]);(with_reducible repeat (first | apply Kd.R_alloc | apply Kd.R_drewN | apply Kd.R_drew));exact b7.out⟩,⟨by repeat (first | (with_reducible first | exact HB.out | apply below_alloc | apply pw_below_drewN | apply below_drew1) | exact HB.out)⟩⟩
       rw [if_pos A2] at H
       have E2:decide (b2 < (((rd_T45 l1 b0).f1).length:Int)) = true:=decide_eq_true A2
       clear A2
       by_cases F0:0 ≤ b2
       case neg =>
        rw [if_neg F0] at H
        exact absurd H (by simp)
       rw [if_pos F0] at H
       have I9:decide (0 ≤ b2) = true:=decide_eq_true F0
       clear F0
       by_cases F1:0 ≤ (rd ((rd_T45 l1 b0).f1) b2)
       case neg =>
        rw [if_neg F1] at H
        exact absurd H (by simp)
       rw [if_pos F1] at H
       have J0:decide (0 ≤ (rd ((rd_T45 l1 b0).f1) b2)) = true:=decide_eq_true F1
       clear F1
       by_cases F2:(rd ((rd_T45 l1 b0).f1) b2) < (d1.length:Int)
       case neg =>
        rw [if_neg F2] at H
        exact absurd H (by simp)
       rw [if_pos F2] at H
       have J1:decide ((rd ((rd_T45 l1 b0).f1) b2) < (d1.length:Int)) = true:=decide_eq_true F2
       clear F2
       obtain ⟨p4,m3⟩:∃ y_:List Int,y_ = (d1.set ((rd ((rd_T45 l1 b0).f1) b2):Int).toNat (wrap64 ((rd d1 (rd ((rd_T45 l1 b0).f1) b2)) - 1))):=⟨_,rfl⟩
       replace H:(numnahref07_Portions.l3 k3 l1 i3 p4 b0 (wrap64 (b2 + 1))) = some r:=by first | (rw [m3];with_reducible exact H) | (have m6:=(Option.bind_some _ _).symm.trans H;rw [m3];with_reducible exact m6) | (have m6:=(Option.bind_some _ _).symm.trans H;with_reducible exact m6) | with_reducible exact H | (rw [m3];exact H) | exact H
       have p5:=A_ m3
       clear m3
       have H':=A_ H
       clear H
       have m7:0 ≤ (b0:Int):=oa_
       have m8:b0 < (l1.length:Int):=oa_
       obtain ⟨s7,z0,z1,z2,h3,e1,h4,h5⟩:=at_T45 m9.out b0 m7 m8
       cases z2
       replace h3:=cT HB h3
       replace e1:=cT HB e1
       have r9:=A_ h5
       have s0:=A_ h4
       clear h5 h4
       replace m7:=eq_true m7
       replace m8:=eq_true m8
       have z3:0 ≤ (b0:Int):=oa_
       have z4:b0 < (l1.length:Int):=oa_
       obtain ⟨E3,G7,G8,G9,n5,i7,n6,n7⟩:=at_T45 m9.out b0 z3 z4
       obtain rfl:s7 = E3:=(by injection G9)
       replace n5:=cT HB n5
       replace i7:=cT HB i7
       have s1:=A_ n7
       have F3:=A_ n6
       clear n7 n6
       replace z3:=eq_true z3
       replace z4:=eq_true z4
       have ea_:=Option.some.inj (e1.symm.trans i7)
       injection ea_ with ea_ en_ ec_
       subst ea_
       subst ec_
       clear en_
       have z5:0 ≤ (b2:Int):=oa_
       have z6:b2 < (((rd_T45 l1 b0).f1).length:Int):=oa_
       obtain ⟨J2,H0,n8⟩:=Kd.at_int s1.out b2 z5 z6
       cases H0
       replace n8:=cT HB n8
       replace z5:=eq_true z5
       replace z6:=eq_true z6
       obtain ⟨K6,i8,H2⟩:=Kd.R_slice b7.out
       subst H2
       have z7:0 ≤ ((rd ((rd_T45 l1 b0).f1) b2):Int):=oa_
       have z8:(rd ((rd_T45 l1 b0).f1) b2) < (d1.length:Int):=oa_
       obtain ⟨J3,H3,s2⟩:=Kd.at_int (Kd.R_reads' b7.out).2.2 (rd ((rd_T45 l1 b0).f1) b2) z7 z8
       cases H3
       replace z7:=eq_true z7
       replace z8:=eq_true z8
       have H4:0 ≤ ((rd ((rd_T45 l1 b0).f1) b2):Int):=oa_
       have H5:((rd ((rd_T45 l1 b0).f1) b2):Int) < ((d1.length:Int):Int):=oa_
       obtain ⟨e3,K7,E4,E5,H6,K8,E6⟩:=Kd.R_form b7.out (by omega)
       (first | cases E4 | (injection E4 with ea_ en_ ec_;(first | subst ea_ | (injection ea_ with ea_;subst ea_));subst ec_;clear en_))
       have z9:=A_ E5
       have K9:=A_ E6
       clear E5 H6 E6
       (first | simp only [add_plain] at s2 | skip)
       obtain ⟨H7,H8⟩:=Kd.R_celln 0 b7.out ((rd ((rd_T45 l1 b0).f1) b2):Int) H4 H5
       replace H4:=eq_true H4
       replace H5:=eq_true H5
       have h8:=Kd.R_putg b7.out ((rd ((rd_T45 l1 b0).f1) b2):Int) (wrap64 ((rd d1 (rd ((rd_T45 l1 b0).f1) b2)) - 1))
       go_wp2_with (first | ((with_reducible refine gate_store (t:=3) (p:=117) rfl ?_);(try (rw [drewN_self wr];generalize hq_:World.drewN wr _ = wr;replace b5:=A_ (Kd.R_at hq_ b5.out);replace b7:=A_ (Kd.R_at hq_ b7.out);replace HB:=A_ (below_at hq_ HB.out);clear hq_;(try (have h8:=Kd.R_putg b7.out ((rd ((rd_T45 l1 b0).f1) b2):Int) (wrap64 ((rd d1 (rd ((rd_T45 l1 b0).f1) b2)) - 1))))));refine store_event (t:=3) (p:=117) (v:=?vo_w43) (w1:=(wr.setCell ⟨e3,((rd ((rd_T45 l1 b0).f1) b2):Int).toNat,none⟩ (.int .i64 (wrap64 ((rd d1 (rd ((rd_T45 l1 b0).f1) b2)) - 1))))) ?hg ?ho ?hn ?hr ?_;(case ho=>rfl);(case hg=>rfl);(case hn=>rfl);(case hr=>first | (go_simp;done) | (go_simp;rfl));intro p7 hw;have hg:wr.grownBy p7 (some e3):=(by rw [hw];exact h8.2);have hp_:Kd.R (Kd.int .i64) 3 p7 w.heap.size (fun k_=>some k_ ≠ (.slice (some ⟨d6,0,none⟩) i3.length h1:Value).ownBlock) (.slice (some ⟨e3,0,none⟩) d1.length i8) p4:=(by rw [hw,p5.out];exact h8.1);clear h8;replace b5:=A_ (Kd.R_after (v:=(.slice (some ⟨e3,0,none⟩) d1.length i8)) (v1:=(.slice (some ⟨e3,0,none⟩) d1.length i8)) (ok:=(fun _=>True)) (by (with_reducible repeat (first | apply Kd.R_alloc | apply Kd.R_drewN | apply Kd.R_drew));exact Kd.R_mono b5.out (fun _ hk=>⟨trivial,hk⟩)) hg (.inl rfl));replace b7:=A_ hp_;replace HB:=A_ ((by rw [hw];exact below_set (HB.out) z9.out:Below w.heap.size w p7));clear hg hw hp_))
       repeat (go_quiet (first | ((with_reducible refine gate_store (t:=3) (p:=117) rfl ?_);(try (rw [drewN_self wr];generalize hq_:World.drewN wr _ = wr;replace b5:=A_ (Kd.R_at hq_ b5.out);replace b7:=A_ (Kd.R_at hq_ b7.out);replace HB:=A_ (below_at hq_ HB.out);clear hq_;(try (have h8:=Kd.R_putg b7.out ((rd ((rd_T45 l1 b0).f1) b2):Int) (wrap64 ((rd d1 (rd ((rd_T45 l1 b0).f1) b2)) - 1))))));refine store_event (t:=3) (p:=117) (v:=?vo_w43) (w1:=(wr.setCell ⟨e3,((rd ((rd_T45 l1 b0).f1) b2):Int).toNat,none⟩ (.int .i64 (wrap64 ((rd d1 (rd ((rd_T45 l1 b0).f1) b2)) - 1))))) ?hg ?ho ?hn ?hr ?_;(case ho=>rfl);(case hg=>rfl);(case hn=>rfl);(case hr=>first | (go_simp;done) | (go_simp;rfl));intro p7 hw;have hg:wr.grownBy p7 (some e3):=(by rw [hw];exact h8.2);have hp_:Kd.R (Kd.int .i64) 3 p7 w.heap.size (fun k_=>some k_ ≠ (.slice (some ⟨d6,0,none⟩) i3.length h1:Value).ownBlock) (.slice (some ⟨e3,0,none⟩) d1.length i8) p4:=(by rw [hw,p5.out];exact h8.1);clear h8;replace b5:=A_ (Kd.R_after (v:=(.slice (some ⟨e3,0,none⟩) d1.length i8)) (v1:=(.slice (some ⟨e3,0,none⟩) d1.length i8)) (ok:=(fun _=>True)) (by (with_reducible repeat (first | apply Kd.R_alloc | apply Kd.R_drewN | apply Kd.R_drew));exact Kd.R_mono b5.out (fun _ hk=>⟨trivial,hk⟩)) hg (.inl rfl));replace b7:=A_ hp_;replace HB:=A_ ((by rw [hw];exact below_set (HB.out) z9.out:Below w.heap.size w p7));clear hg hw hp_));try go_wp2_with (first | ((with_reducible refine gate_store (t:=3) (p:=117) rfl ?_);(try (rw [drewN_self wr];generalize hq_:World.drewN wr _ = wr;replace b5:=A_ (Kd.R_at hq_ b5.out);replace b7:=A_ (Kd.R_at hq_ b7.out);replace HB:=A_ (below_at hq_ HB.out);clear hq_;(try (have h8:=Kd.R_putg b7.out ((rd ((rd_T45 l1 b0).f1) b2):Int) (wrap64 ((rd d1 (rd ((rd_T45 l1 b0).f1) b2)) - 1))))));refine store_event (t:=3) (p:=117) (v:=?vo_w43) (w1:=(wr.setCell ⟨e3,((rd ((rd_T45 l1 b0).f1) b2):Int).toNat,none⟩ (.int .i64 (wrap64 ((rd d1 (rd ((rd_T45 l1 b0).f1) b2)) - 1))))) ?hg ?ho ?hn ?hr ?_;(case ho=>rfl);(case hg=>rfl);(case hn=>rfl);(case hr=>first | (go_simp;done) | (go_simp;rfl));intro p7 hw;have hg:wr.grownBy p7 (some e3):=(by rw [hw];exact h8.2);have hp_:Kd.R (Kd.int .i64) 3 p7 w.heap.size (fun k_=>some k_ ≠ (.slice (some ⟨d6,0,none⟩) i3.length h1:Value).ownBlock) (.slice (some ⟨e3,0,none⟩) d1.length i8) p4:=(by rw [hw,p5.out];exact h8.1);clear h8;replace b5:=A_ (Kd.R_after (v:=(.slice (some ⟨e3,0,none⟩) d1.length i8)) (v1:=(.slice (some ⟨e3,0,none⟩) d1.length i8)) (ok:=(fun _=>True)) (by (with_reducible repeat (first | apply Kd.R_alloc | apply Kd.R_drewN | apply Kd.R_drew));exact Kd.R_mono b5.out (fun _ hk=>⟨trivial,hk⟩)) hg (.inl rfl));replace b7:=A_ hp_;replace HB:=A_ ((by rw [hw];exact below_set (HB.out) z9.out:Below w.heap.size w p7));clear hg hw hp_)))
       (try simp only [← h2])
       go_roundg k3
       case measure=>have:=m4.out;have:=m5.out;have:=j8.out;omega
       case rel=>exact ⟨(p4),(wrap64 (b2 + 1)),rf_,H',⟨by have:=m4.out;have:=m5.out;have:=j8.out;omega⟩,⟨by (try simp only [h2]);(with_reducible repeat (first | apply Kd.R_alloc | apply Kd.R_drewN | apply Kd.R_drew));exact Kd.R_mono b5.out (fun _ hk=>hk.2)⟩,⟨by (try simp only [h2]);(with_reducible repeat (first | apply Kd.R_alloc | apply Kd.R_drewN | apply Kd.R_drew));exact b7.out⟩,⟨by repeat (first | (with_reducible first | exact HB.out | apply below_alloc | apply pw_below_drewN | apply below_drew1) | exact HB.out)⟩⟩
end Go.Proofs.Ytjohcjfmlhihbaa.G
set_option linter.unusedSectionVars false
namespace Go.Proofs.Ytjohcjfmlhihbaa.P
open Go Go.RowKit Go.Proofs.Ytjohcjfmlhihbaa.G
open Go.Proofs.YtjohcjfmlhihbaaW.PrintWords Go.Proofs.YtjohcjfmlhihbaaW.PrintMore
theorem foldr_add (l:List Int) (x:Int):l.foldr (· + ·) x = l.foldr (· + ·) 0 + x:=by
 induction l with
 | nil=>simp
 | cons a l ih=>simp only [List.foldr_cons,ih];omega
theorem sumI_succ (m:Nat) (f:Nat → Int):sumI (m + 1) f = sumI m f + f m:=by
 unfold sumI
 rw [List.range_succ,List.map_append,List.foldr_append,List.map_cons,List.map_nil,List.foldr_cons,List.foldr_nil,foldr_add,Int.add_zero]
theorem sumI_congr:∀ {m:Nat} {f g:Nat → Int},(∀ v,v < m → f v = g v) → sumI m f = sumI m g
 | 0,_,_,_=>rfl
 | m + 1,f,g,h=>by rw [sumI_succ,sumI_succ,sumI_congr fun v hv=>h v (by omega),h m (by omega)]
theorem sumI_upd:∀ {m:Nat} {f g:Nat → Int} {a:Nat},a < m → (∀ v,v ≠ a → g v = f v) → sumI m g = sumI m f + g a - f a
 | 0,_,_,_,h,_=>by omega
 | m + 1,f,g,a,h,hg=>by
  rw [sumI_succ,sumI_succ]
  by_cases e:a = m
  ·subst e
   rw [sumI_congr (f:=g) (g:=f) fun v hv=>hg v (by omega)];omega
  ·rw [sumI_upd (f:=f) (g:=g) (a:=a) (by omega) hg,hg m (fun h=>e h.symm)];omega
theorem sumI_nonneg:∀ {m:Nat} {f:Nat → Int},(∀ v,v < m → 0 ≤ f v) → 0 ≤ sumI m f
 | 0,_,_=>Int.le_refl _
 | m + 1,f,h=>by
  rw [sumI_succ]
  have:=sumI_nonneg (m:=m) (f:=f) fun v hv=>h v (by omega)
  have:=h m (by omega)
  omega
theorem sumI_ge:∀ {m:Nat} {f:Nat → Int} {a:Nat},(∀ v,v < m → 0 ≤ f v) → a < m → f a ≤ sumI m f
 | 0,_,_,_,h=>by omega
 | m + 1,f,a,h,ha=>by
  rw [sumI_succ]
  have h1:=sumI_nonneg (m:=m) (f:=f) fun v hv=>h v (by omega)
  have h2:=h m (by omega)
  by_cases e:a = m
  ·subst e;omega
  ·have:=sumI_ge (m:=m) (f:=f) (a:=a) (fun v hv=>h v (by omega)) (by omega)
   omega
theorem sumI_le:∀ {m:Nat} {f:Nat → Int} {b:Int},(∀ v,v < m → f v ≤ b) → sumI m f ≤ (m:Int) * b
 | 0,_,_,_=>by simp [sumI]
 | m + 1,f,b,h=>by
  rw [sumI_succ]
  have:=sumI_le (m:=m) (f:=f) (b:=b) fun v hv=>h v (by omega)
  have:=h m (by omega)
  have e:((m + 1:Nat):Int) * b = (m:Int) * b + b:=by push_cast;rw [Int.add_mul,Int.one_mul]
  omega
def pipesOf (u:List S45) (v:Nat):List Int:=(rd_T45 u (v:Int)).f1
def wI (u:List S45) (v:Nat):Int:=(rd_T45 u (v:Int)).f0
def cI (u:List S45) (v q:Nat):Int:=((pipesOf u v).count (q:Int):Int)
theorem okAt_lt {n:Nat} {l:List Int} (h:allF (okAt n l) l.length 0 = true):∀ {j i:Nat},(hi:i < j) → (hj:j < l.length) → l[i]'(Nat.lt_trans hi hj) < l[j]
 | 0,i,h1,_=>by omega
 | j + 1,i,h1,hj=>by
  have:=(allF_iff _ _ _).1 h (j + 1) (by omega) (by omega)
  simp only [okAt,Bool.and_eq_true,Bool.or_eq_true,decide_eq_true_eq] at this
  have h2:=this.2.resolve_left (by omega)
  rw [show j + 1 - 1 = j from rfl,rd_get (show j < l.length by omega),rd_get hj] at h2
  by_cases e:i = j
  ·subst e;exact h2
  ·have:=okAt_lt h (j:=j) (i:=i) (by omega) (by omega)
   omega
theorem okAt_nodup {n:Nat} {l:List Int} (h:allF (okAt n l) l.length 0 = true):l.Nodup:=by
 unfold List.Nodup
 rw [List.pairwise_iff_getElem]
 intro i j hi hj hij
 have:=okAt_lt h hij hj
 omega
section
variable {p:List Int} {u:List S45} (hok:okNet p u = true)
include hok
theorem okU_of {v:Nat} (hv:v < u.length):okU p.length (rd_T45 u (v:Int)) = true:=by
 simp only [okNet,Bool.and_eq_true,decide_eq_true_eq,List.all_eq_true,allF_iff] at hok
 exact hok.2 v (by omega) (by omega)
theorem pipes_nodup {v:Nat} (hv:v < u.length):(pipesOf u v).Nodup:=by
 have:=okU_of hok hv
 simp only [okU,Bool.and_eq_true,decide_eq_true_eq] at this
 exact okAt_nodup this.2
theorem pipes_in {v:Nat} (hv:v < u.length):∀ q ∈ pipesOf u v,0 ≤ q ∧ q < (p.length:Int):=by
 have:=(isN hok).pipe v hv
 unfold pipesOf
 rw [rdT45 hv];exact this
theorem pipes_len {v:Nat} (hv:v < u.length):1 ≤ (pipesOf u v).length ∧ (pipesOf u v).length ≤ 5:=by
 have:=(isN hok).len v hv
 unfold pipesOf
 rw [rdT45 hv];exact this
theorem wI_in {v:Nat} (hv:v < u.length):1 ≤ wI u v ∧ wI u v ≤ 4:=by
 have:=(isN hok).wt v hv
 unfold wI
 rw [rdT45 hv];exact this
theorem cI_le {v:Nat} (hv:v < u.length) (q:Nat):0 ≤ cI u v q ∧ cI u v q ≤ 1:=by
 have:=List.nodup_iff_count.1 (pipes_nodup hok hv) (q:Int)
 unfold cI
 omega
theorem cI_mem {v q:Nat} (hv:v < u.length):cI u v q = if (q:Int) ∈ pipesOf u v then 1 else 0:=by
 have:=List.nodup_iff_count.1 (pipes_nodup hok hv) (q:Int)
 unfold cI
 by_cases h:(q:Int) ∈ pipesOf u v
 ·rw [if_pos h]
  have:=List.count_pos_iff.2 h
  omega
 ·rw [if_neg h,List.count_eq_zero_of_not_mem h];rfl
end
structure WS (p:List Int) (u:List S45) (X F:Nat → Int):Prop where
 x0:∀ v,v < u.length → 0 ≤ X v
 f0:∀ q,q < p.length → 0 ≤ F q
 eq:∀ q,q < p.length → F q + sumI u.length (fun v=>X v * cI u v q) = rd p (q:Int)
def fullB (u:List S45) (F:Nat → Int) (v:Nat):Bool:=(pipesOf u v).any fun q=>decide (F q.toNat = 0)
def pkN (u:List S45) (X F:Nat → Int) (i:Nat) (a:Int):Int:=if fullB u F i = true then a else if a < 0 then (i:Int) else if (X i + 1) * wI u a.toNat < (X a.toNat + 1) * wI u i then (i:Int) else a
def pk (u:List S45) (X F:Nat → Int):Nat → Nat → Int → Int
 | 0,_,a=>a
 | d + 1,i,a=>pk u X F d (i + 1) (pkN u X F i a)
def PkOk (u:List S45) (X F:Nat → Int) (i:Nat) (a:Int):Prop :=
 (a < 0 → a = -1 ∧ ∀ v,v < i → fullB u F v = true) ∧ (0 ≤ a → a < (i:Int) ∧ fullB u F a.toNat = false ∧ ∀ v,v < i → fullB u F v = false → (X a.toNat + 1) * wI u v ≤ (X v + 1) * wI u a.toNat)
theorem cross {a b c wa wb wc:Int} (ha:0 < wa) (hb:0 < wb) (hc:0 < wc) (h1:b * wa < a * wb) (h2:a * wc ≤ c * wa):b * wc ≤ c * wb:=by
 have e1:b * wa * wc ≤ a * wb * wc:=Int.mul_le_mul_of_nonneg_right (by omega) (by omega)
 have e2:a * wc * wb ≤ c * wa * wb:=Int.mul_le_mul_of_nonneg_right h2 (by omega)
 have e3:a * wb * wc = a * wc * wb:=by rw [Int.mul_assoc,Int.mul_comm wb wc,Int.mul_assoc]
 have e4:b * wa * wc = b * wc * wa:=by rw [Int.mul_assoc,Int.mul_comm wa wc,Int.mul_assoc]
 have e5:c * wa * wb = c * wb * wa:=by rw [Int.mul_assoc,Int.mul_comm wa wb,Int.mul_assoc]
 have:b * wc * wa ≤ c * wb * wa:=by omega
 exact Int.le_of_mul_le_mul_right this ha
section
variable {p:List Int} {u:List S45} (hok:okNet p u = true) {X F:Nat → Int}
include hok
theorem PkOk.next {i:Nat} (hi:i < u.length) {a:Int} (h:PkOk u X F i a):PkOk u X F (i + 1) (pkN u X F i a):=by
 unfold pkN
 by_cases hf:fullB u F i = true
 ·rw [if_pos hf]
  refine ⟨fun ha=>⟨(h.1 ha).1,fun v hv=>?_⟩,fun ha=>⟨by have:=(h.2 ha).1;omega,(h.2 ha).2.1,fun v hv hvf=>?_⟩⟩
  ·by_cases e:v = i
   ·rw [e];exact hf
   ·exact (h.1 ha).2 v (by omega)
  ·by_cases e:v = i
   ·rw [e,hf] at hvf;cases hvf
   ·exact (h.2 ha).2.2 v (by omega) hvf
 ·have hf':fullB u F i = false:=by simpa using hf
  rw [if_neg hf]
  by_cases ha:a < 0
  ·rw [if_pos ha]
   refine ⟨fun h=>by omega,fun _=>⟨by omega,by rw [Int.toNat_natCast];exact hf',fun v hv hvf=>?_⟩⟩
   by_cases e:v = i
   ·rw [e,Int.toNat_natCast];exact Int.le_refl _
   ·rw [(h.1 ha).2 v (by omega)] at hvf;cases hvf
  ·rw [if_neg ha]
   obtain ⟨h1,h2,h3⟩:=h.2 (by omega)
   have wa:=wI_in hok (v:=a.toNat) (by omega)
   have wi:=wI_in hok hi
   by_cases hlt:(X i + 1) * wI u a.toNat < (X a.toNat + 1) * wI u i
   ·rw [if_pos hlt]
    refine ⟨fun h=>by omega,fun _=>⟨by omega,by rw [Int.toNat_natCast];exact hf',fun v hv hvf=>?_⟩⟩
    rw [Int.toNat_natCast]
    by_cases e:v = i
    ·rw [e];exact Int.le_refl _
    ·have wv:=wI_in hok (v:=v) (by omega)
     exact cross (by omega) (by omega) (by omega) hlt (h3 v (by omega) hvf)
   ·rw [if_neg hlt]
    refine ⟨fun h=>absurd h ha,fun _=>⟨by omega,h2,fun v hv hvf=>?_⟩⟩
    by_cases e:v = i
    ·rw [e];omega
    ·exact h3 v (by omega) hvf
theorem PkOk.all:∀ {d i:Nat} {a:Int},i + d = u.length → PkOk u X F i a → PkOk u X F u.length (pk u X F d i a)
 | 0,i,a,hi,h=>by
  obtain rfl:i = u.length:=by omega
  exact h
 | d + 1,i,a,hi,h=>PkOk.all (d:=d) (i:=i + 1) (by omega) (h.next hok (by omega))
theorem WS.le (h:WS p u X F) {v:Nat} (hv:v < u.length):X v ≤ 200:=by
 have hl:=(pipes_len hok hv).1
 obtain ⟨q,hq⟩:∃ q,q ∈ pipesOf u v:=⟨(pipesOf u v)[0],List.getElem_mem _⟩
 obtain ⟨q0,q1⟩:=pipes_in hok hv q hq
 obtain ⟨n,rfl⟩:∃ n:Nat,q = (n:Int):=⟨q.toNat,by omega⟩
 have hn:n < p.length:=by omega
 have h1:=h.eq n hn
 have h2:=h.f0 n hn
 have h3:=sumI_ge (m:=u.length) (f:=fun v=>X v * cI u v n) (a:=v) (fun v hv=>Int.mul_nonneg (h.x0 v hv) (cI_le hok hv n).1) hv
 have h4:=(isN hok).cap n hn
 have h5:X v * cI u v n = X v:=by rw [cI_mem hok hv,if_pos hq,Int.mul_one]
 have h6:X v ≤ sumI u.length (fun v=>X v * cI u v n):=by
  have h3':X v * cI u v n ≤ sumI u.length (fun v=>X v * cI u v n):=h3
  rw [h5] at h3';exact h3'
 rw [rd_get hn] at h1
 omega
theorem WS.cap (h:WS p u X F) {q:Nat} (hq:q < p.length):F q ≤ 200:=by
 have h1:=h.eq q hq
 have h3:=sumI_nonneg (m:=u.length) (f:=fun v=>X v * cI u v q) fun v hv=>Int.mul_nonneg (h.x0 v hv) (cI_le hok hv q).1
 have h4:=(isN hok).cap q hq
 rw [rd_get hq] at h1
 omega
theorem WS.step (h:WS p u X F) {a:Nat} (ha:a < u.length) (hf:fullB u F a = false):WS p u (fun v=>if v = a then X a + 1 else X v) (fun q=>F q - cI u a q) where
 x0:=fun v hv=>by
  have:=h.x0 a ha
  have:=h.x0 v hv
  show 0 ≤ if v = a then X a + 1 else X v
  split <;> omega
 f0:=fun q hq=>by
  have h0:=h.f0 q hq
  show 0 ≤ F q - cI u a q
  rw [cI_mem hok ha]
  split
  ·rename_i hm
   have:F q ≠ 0:=fun e=>by
    have:fullB u F a = true:=List.any_eq_true.2 ⟨(q:Int),hm,by rw [Int.toNat_natCast];exact decide_eq_true e⟩
    rw [hf] at this;cases this
   omega
  ·omega
 eq:=fun q hq=>by
  have:=h.eq q hq
  rw [sumI_upd (f:=fun v=>X v * cI u v q) (g:=fun v=>(if v = a then X a + 1 else X v) * cI u v q) (a:=a) ha (fun v hv=>by simp only [if_neg hv])]
  simp only [if_true]
  have e:(X a + 1) * cI u a q = X a * cI u a q + cI u a q:=by rw [Int.add_mul,Int.one_mul]
  omega
theorem WS.start:WS p u (fun _=>0) (fun q=>rd p (q:Int)) where
 x0:=fun _ _=>Int.le_refl _
 f0:=fun q hq=>by rw [rd_get hq];exact ((isN hok).cap q hq).1
 eq:=fun q _=>by
  have:sumI u.length (fun v=>0 * cI u v q) = 0:=by
   rw [sumI_congr (g:=fun _=>0) fun v _=>Int.zero_mul _]
   clear hok
   generalize u.length = m
   induction m with
   | zero=>rfl
   | succ m ih=>rw [sumI_succ,ih];rfl
  show rd p (q:Int) + sumI u.length (fun v=>0 * cI u v q) = _
  omega
end
end Go.Proofs.Ytjohcjfmlhihbaa.P
set_option linter.unusedSectionVars false
namespace Go.Proofs.Ytjohcjfmlhihbaa.P
open Go Go.RowKit Go.Proofs.Ytjohcjfmlhihbaa.G
open Go.Proofs.YtjohcjfmlhihbaaW.PrintWords Go.Proofs.YtjohcjfmlhihbaaW.PrintMore
theorem tab_In {m:Nat} {f:Nat → Int} {q:Int} (h0:0 ≤ q) (h:q < (m:Int)):rd (tab m f) q = f q.toNat:=by
 obtain ⟨n,rfl⟩:∃ n:Nat,q = (n:Int):=⟨q.toNat,by omega⟩
 rw [tab_I (by omega),Int.toNat_natCast]
theorem zeroO_tab {n:Nat} {F:Nat → Int}:∀ {l:List Int},(∀ q ∈ l,0 ≤ q ∧ q < (n:Int)) → zeroO l (tab n F) = some (l.any fun q=>decide (F q.toNat = 0))
 | [],_=>rfl
 | q :: l,h=>by
  obtain ⟨h1,h2⟩:=h q (by simp)
  rw [zeroO,if_pos ⟨h1,by rw [tab_length];exact h2⟩,tab_In h1 h2,zeroO_tab fun q hq=>h q (List.mem_cons_of_mem _ hq),List.any_cons]
  by_cases e:F q.toNat = 0
  ·rw [if_pos e,decide_eq_true e];rfl
  ·rw [if_neg e,decide_eq_false e];rfl
def dec (F:Nat → Int) (l:List Int) (q:Nat):Int:=F q - (l.count (q:Int):Int)
theorem dec_nil (F:Nat → Int):dec F [] = F:=funext fun q=>by unfold dec;simp
theorem dec_cons {n:Nat} {F:Nat → Int} {q:Int} {l:List Int} (h0:0 ≤ q) (h1:q < (n:Int)):tab n (dec F (q :: l)) = tab n (dec (fun v=>if v = q.toNat then F q.toNat - 1 else F v) l):=tab_congr fun v hv=>by
 unfold dec
 show F v - _ = (if v = q.toNat then F q.toNat - 1 else F v) - _
 rw [List.count_cons]
 by_cases e:v = q.toNat
 ·have e2:q = (v:Int):=by omega
  rw [if_pos e,e2];simp;omega
 ·have e2:¬ q = (v:Int):=by omega
  rw [if_neg e];simp [e2]
section
variable {p:List Int} {u:List S45} (hok:okNet p u = true) {X F:Nat → Int}
include hok
theorem whole_l2 {x:List Int} {l:List Int} (hl:l.length ≤ 5) (hin:∀ q ∈ l,0 ≤ q ∧ q < (p.length:Int)) {v:List Int × Int}:∀ d j (F:Nat → Int),j + d = l.length → (∀ q,q < p.length → (d:Int) - 10 ≤ F q ∧ F q ≤ 200) → Ev (fun k=>shares_Whole.l0 k u x p u (tab p.length (dec F (l.drop j)))) v → Ev (fun k=>shares_Whole.l2 k u x l (l.length:Int) (j:Int) p u (tab p.length F)) v:=by
 intro d
 induction d with
 | zero =>
  intro j F hj hF hv
  obtain rfl:j = l.length:=by omega
  rw [List.drop_length,dec_nil] at hv
  refine Ev.step (fun k=>?_) hv
  rw [shares_Whole.l2,if_neg (by omega)]
 | succ d ih =>
  intro j F hj hF hv
  have hjl:j < l.length:=by omega
  obtain ⟨h0,h1⟩:=hin _ (List.getElem_mem hjl)
  have hb:=hF l[j].toNat (by omega)
  rw [List.drop_eq_getElem_cons hjl,dec_cons h0 h1] at hv
  have hn:=ih (j + 1) _ (by omega) (fun q hq=>by
   have:=hF q hq
   show (d:Int) - 10 ≤ (if q = l[j].toNat then F l[j].toNat - 1 else F q) ∧ (if q = l[j].toNat then F l[j].toNat - 1 else F q) ≤ 200
   split <;> omega) hv
  refine Ev.step (fun k=>?_) hn
  rw [shares_Whole.l2,if_pos (by omega),if_pos (by omega),if_pos (by omega),rd_get hjl,if_pos h0,if_pos (by rw [tab_length];exact h1),tab_In h0 h1,wrap_succ (by omega),wrap_id (by omega) (by omega),tab_set]
theorem ports_l3 {x:List Int} {a:Nat} (ha:a < u.length) {v:List Int}:∀ d j (F:Nat → Int),j + d = (pipesOf u a).length → (∀ q,q < p.length → (d:Int) - 10 ≤ F q ∧ F q ≤ 200) → Ev (fun k=>numnahref07_Portions.l0 k u x (tab p.length (dec F ((pipesOf u a).drop j)))) v → Ev (fun k=>numnahref07_Portions.l3 k u x (tab p.length F) (a:Int) (j:Int)) v:=by
 have hl:=(pipes_len hok ha).2
 have hin:=pipes_in hok ha
 intro d
 induction d with
 | zero =>
  intro j F hj hF hv
  obtain rfl:j = (pipesOf u a).length:=by omega
  rw [List.drop_length,dec_nil] at hv
  refine Ev.step (fun k=>?_) hv
  rw [numnahref07_Portions.l3,if_pos (by omega),if_pos (by omega),if_neg (by unfold pipesOf;omega)]
 | succ d ih =>
  intro j F hj hF hv
  have hjl:j < (pipesOf u a).length:=by omega
  obtain ⟨h0,h1⟩:=hin _ (List.getElem_mem hjl)
  have hb:=hF (pipesOf u a)[j].toNat (by omega)
  rw [List.drop_eq_getElem_cons hjl,dec_cons h0 h1] at hv
  have hn:=ih (j + 1) _ (by omega) (fun q hq=>by
   have:=hF q hq
   show (d:Int) - 10 ≤ (if q = (pipesOf u a)[j].toNat then F (pipesOf u a)[j].toNat - 1 else F q) ∧ (if q = (pipesOf u a)[j].toNat then F (pipesOf u a)[j].toNat - 1 else F q) ≤ 200
   split <;> omega) hv
  refine Ev.step (fun k=>?_) hn
  have er:rd (rd_T45 u (a:Int)).f1 (j:Int) = (pipesOf u a)[j]:=rd_get hjl
  rw [numnahref07_Portions.l3,if_pos (by omega),if_pos (by omega),if_pos (show (j:Int) < (((rd_T45 u (a:Int)).f1.length:Nat):Int) by unfold pipesOf at hjl;omega),if_pos (by omega),er,if_pos h0,if_pos (by rw [tab_length];exact h1),tab_In h0 h1,wrap_succ (by omega),wrap_id (by omega) (by omega),tab_set]
theorem set_one {a:Nat} (ha:a < u.length) (hb:0 ≤ X a ∧ X a ≤ 200):(tab u.length X).set ((a:Nat):Int).toNat (wrap64 (rd (tab u.length X) (a:Int) + 1)) = tab u.length (fun v=>if v = a then X a + 1 else X v):=by
 rw [tab_I ha,wrap_id (by omega) (by omega),tab_set,Int.toNat_natCast]
theorem cmp_wrap {a b:Nat} (ha:a < u.length) (hb:b < u.length) (hX:∀ v,v < u.length → 0 ≤ X v ∧ X v ≤ 200):wrap64 (wrap64 (rd (tab u.length X) (a:Int) + 1) * (rd_T45 u (b:Int)).f0) = (X a + 1) * wI u b:=by
 have h1:=hX a ha
 have h2:=wI_in hok hb
 rw [tab_I ha,wrap_id (x:=X a + 1) (by omega) (by omega)]
 have h3:(X a + 1) * wI u b ≤ 201 * 4:=Int.mul_le_mul (by omega) h2.2 (by omega) (by omega)
 have h4:0 ≤ (X a + 1) * wI u b:=Int.mul_nonneg (by omega) (by omega)
 exact wrap_id (by unfold wI at h4;omega) (by unfold wI at h3;omega)
theorem whole_l1 (hX:∀ v,v < u.length → 0 ≤ X v ∧ X v ≤ 200) {v:List Int × Int}:∀ d i (a:Int),i + d = u.length → PkOk u X F i a → a < (u.length:Int) → (pk u X F d i a < 0 → v = (tab u.length X,0)) → (0 ≤ pk u X F d i a → Ev (fun k=>shares_Whole.l2 k u (tab u.length (fun v=>if v = (pk u X F d i a).toNat then X (pk u X F d i a).toNat + 1 else X v)) (pipesOf u (pk u X F d i a).toNat) ((pipesOf u (pk u X F d i a).toNat).length:Int) 0 p u (tab p.length F)) v) → Ev (fun k=>shares_Whole.l1 k u (tab u.length X) a u (u.length:Int) (i:Int) p u (tab p.length F)) v:=by
 have h6:=(isN hok).u6
 intro d
 induction d with
 | zero =>
  intro i a hi hpk hal h1 h2
  obtain rfl:i = u.length:=by omega
  unfold pk at h1 h2
  by_cases ha:a < 0
  ·refine Ev.step (f:=fun _=>some (tab u.length X,0)) (fun k=>?_) (by rw [h1 ha];exact Ev.now _)
   rw [shares_Whole.l1,if_neg (by omega),if_pos ha]
  ·obtain ⟨n,rfl⟩:∃ n:Nat,a = (n:Int):=⟨a.toNat,by omega⟩
   have hn:n < u.length:=by omega
   have h3:=h2 (by omega)
   rw [Int.toNat_natCast] at h3
   refine Ev.step (fun k=>?_) h3
   rw [shares_Whole.l1,if_neg (by omega),if_neg (by omega),if_pos (by omega),tab_length,if_pos (by omega),if_pos (by omega),set_one hok hn (hX n hn)]
   rfl
 | succ d ih =>
  intro i a hi hpk hal h1 h2
  have hil:i < u.length:=by omega
  rw [pk] at h1 h2
  have hnx:=hpk.next hok hil
  have hal':pkN u X F i a < (u.length:Int):=by
   unfold pkN
   split
   ·exact hal
   ·split
    ·omega
    ·split <;> omega
  have hn:=ih (i + 1) (pkN u X F i a) (by omega) hnx hal' h1 h2
  have hc:contains81.f (rd_T45 u (i:Int)).f1 (tab p.length F) = some (fullB u F i):=by
   have hpl:=pipes_len hok hil
   have:H.fitL (rd_T45 u (i:Int)).f1:=by
    unfold H.fitL
    unfold pipesOf at hpl;omega
   unfold contains81.f
   rw [if_pos this]
   exact zeroO_tab (pipes_in hok hil)
  refine Ev.step (fun k=>by rw [shares_Whole.l1,if_pos (by omega),if_pos (by omega),if_pos (by omega),hc,Option.bind_some,wrap_succ (by omega),tab_length]) ?_
  unfold pkN at hn
  by_cases hf:fullB u F i = true
  ·rw [if_pos hf] at hn
   exact Ev.congr (fun k=>if_pos hf) hn
  ·rw [if_neg hf] at hn
   refine Ev.congr (fun k=>if_neg hf) ?_
   by_cases ha:a < 0
   ·rw [if_pos ha] at hn
    exact Ev.congr (fun k=>if_pos ha) hn
   ·rw [if_neg ha] at hn
    refine Ev.congr (fun k=>if_neg ha) ?_
    obtain ⟨n,rfl⟩:∃ n:Nat,a = (n:Int):=⟨a.toNat,by omega⟩
    have hnl:n < u.length:=by omega
    rw [Int.toNat_natCast] at hn
    refine Ev.congr (fun k=>if_pos (by omega)) (Ev.congr (fun k=>if_pos (by omega)) (Ev.congr (fun k=>if_pos (by omega)) (Ev.congr (fun k=>if_pos (by omega)) ?_)))
    rw [cmp_wrap hok hil hnl hX,cmp_wrap hok hnl hil hX]
    by_cases hlt:(X i + 1) * wI u n < (X n + 1) * wI u i
    ·rw [if_pos hlt] at hn
     exact Ev.congr (fun k=>if_pos hlt) hn
    ·rw [if_neg hlt] at hn
     exact Ev.congr (fun k=>if_neg hlt) hn
theorem ports_l2 (hX:∀ v,v < u.length → 0 ≤ X v ∧ X v ≤ 200) (hF:∀ q,q < p.length → 0 ≤ F q) {i:Nat} (hil:i < u.length) {a:Int} (hal:a < (i:Int)) {v:List Int} (hn:Ev (fun k=>numnahref07_Portions.l1 k u (tab u.length X) (tab p.length F) (pkN u X F i a) ((i + 1:Nat):Int)) v):∀ d j (b:Bool),j + d = (pipesOf u i).length → (b && !((pipesOf u i).drop j).any fun q=>decide (F q.toNat = 0)) = !fullB u F i → Ev (fun k=>numnahref07_Portions.l2 k u (tab u.length X) (tab p.length F) a (i:Int) b (j:Int)) v:=by
 have h6:=(isN hok).u6
 have hl:=(pipes_len hok hil).2
 have hin:=pipes_in hok hil
 intro d
 induction d with
 | zero =>
  intro j b hj hb
  obtain rfl:j = (pipesOf u i).length:=by omega
  rw [List.drop_length,List.any_nil,Bool.not_false,Bool.and_true] at hb
  refine Ev.step (fun k=>by rw [numnahref07_Portions.l2,if_pos (by omega),if_pos (by omega),if_neg (show ¬ (((pipesOf u i).length:Nat):Int) < (((rd_T45 u (i:Int)).f1.length:Nat):Int) by unfold pipesOf;omega),wrap_succ (by omega),tab_length]) ?_
  unfold pkN at hn
  by_cases hf:fullB u F i = true
  ·rw [hf] at hb
   rw [if_pos hf] at hn
   exact Ev.congr (fun k=>if_neg (by rw [hb];decide)) hn
  ·have hf':fullB u F i = false:=by simpa using hf
   rw [hf'] at hb
   rw [if_neg hf] at hn
   refine Ev.congr (fun k=>if_pos hb) ?_
   by_cases ha:a < 0
   ·rw [if_pos ha] at hn
    exact Ev.congr (fun k=>if_pos ha) hn
   ·rw [if_neg ha] at hn
    refine Ev.congr (fun k=>if_neg ha) ?_
    obtain ⟨n,rfl⟩:∃ n:Nat,a = (n:Int):=⟨a.toNat,by omega⟩
    have hnl:n < u.length:=by omega
    rw [Int.toNat_natCast] at hn
    refine Ev.congr (fun k=>if_pos (by omega)) (Ev.congr (fun k=>if_pos (by omega)) (Ev.congr (fun k=>if_pos (by omega)) (Ev.congr (fun k=>if_pos (by omega)) ?_)))
    rw [cmp_wrap hok hil hnl hX,cmp_wrap hok hnl hil hX]
    by_cases hlt:(X i + 1) * wI u n < (X n + 1) * wI u i
    ·rw [if_pos hlt] at hn
     exact Ev.congr (fun k=>if_pos hlt) hn
    ·rw [if_neg hlt] at hn
     exact Ev.congr (fun k=>if_neg hlt) hn
 | succ d ih =>
  intro j b hj hb
  have hjl:j < (pipesOf u i).length:=by omega
  obtain ⟨h0,h1⟩:=hin _ (List.getElem_mem hjl)
  have er:rd (rd_T45 u (i:Int)).f1 (j:Int) = (pipesOf u i)[j]:=rd_get hjl
  rw [List.drop_eq_getElem_cons hjl,List.any_cons] at hb
  have hF0:=hF (pipesOf u i)[j].toNat (by omega)
  refine Ev.step (fun k=>by rw [numnahref07_Portions.l2,if_pos (by omega),if_pos (by omega),if_pos (show (j:Int) < (((rd_T45 u (i:Int)).f1.length:Nat):Int) by unfold pipesOf at hjl;omega),er,wrap_succ (by omega),tab_length,tab_In h0 h1]) ?_
  cases b with
  | false =>
   refine Ev.congr (fun k=>if_neg (by decide)) (ih (j + 1) false (by omega) ?_)
   simpa using hb
  | true =>
   refine Ev.congr (fun k=>if_pos rfl) (Ev.congr (fun k=>if_pos (by omega)) (Ev.congr (fun k=>if_pos h0) (Ev.congr (fun k=>if_pos h1) (ih (j + 1) _ (by omega) ?_))))
   rw [← hb,Bool.true_and,Bool.not_or]
   congr 1
   by_cases e:F (pipesOf u i)[j].toNat = 0
   ·rw [decide_eq_true e,decide_eq_false (by omega)];rfl
   ·rw [decide_eq_false e,decide_eq_true (by omega)];rfl
theorem ports_l1 (hX:∀ v,v < u.length → 0 ≤ X v ∧ X v ≤ 200) (hF:∀ q,q < p.length → 0 ≤ F q) {v:List Int}:∀ d i (a:Int),i + d = u.length → a < (i:Int) ∨ a < 0 → (pk u X F d i a < 0 → v = tab u.length X) → (0 ≤ pk u X F d i a → Ev (fun k=>numnahref07_Portions.l3 k u (tab u.length (fun v=>if v = (pk u X F d i a).toNat then X (pk u X F d i a).toNat + 1 else X v)) (tab p.length F) (((pk u X F d i a).toNat:Nat):Int) 0) v) → Ev (fun k=>numnahref07_Portions.l1 k u (tab u.length X) (tab p.length F) a (i:Int)) v:=by
 have h6:=(isN hok).u6
 intro d
 induction d with
 | zero =>
  intro i a hi hal h1 h2
  obtain rfl:i = u.length:=by omega
  unfold pk at h1 h2
  by_cases ha:a < 0
  ·refine Ev.step (f:=fun _=>some (tab u.length X)) (fun k=>?_) (by rw [h1 ha];exact Ev.now _)
   rw [numnahref07_Portions.l1,if_neg (by omega),if_pos ha]
  ·obtain ⟨n,rfl⟩:∃ n:Nat,a = (n:Int):=⟨a.toNat,by omega⟩
   have hn:n < u.length:=by omega
   have h3:=h2 (by omega)
   rw [Int.toNat_natCast] at h3
   refine Ev.step (fun k=>?_) h3
   rw [numnahref07_Portions.l1,if_neg (by omega),if_neg (by omega),if_pos (by omega),tab_length,if_pos (by omega),set_one hok hn (hX n hn)]
 | succ d ih =>
  intro i a hi hal h1 h2
  have hil:i < u.length:=by omega
  rw [pk] at h1 h2
  have hal':pkN u X F i a < ((i + 1:Nat):Int) ∨ pkN u X F i a < 0:=by
   unfold pkN
   split
   ·omega
   ·split
    ·omega
    ·split <;> omega
  have hn:=ih (i + 1) (pkN u X F i a) (by omega) hal' h1 h2
  refine Ev.step (fun k=>by rw [numnahref07_Portions.l1,if_pos (by omega)];rfl) (ports_l2 hok hX hF hil (by omega) hn (pipesOf u i).length 0 true (by omega) ?_)
  rw [List.drop_zero,Bool.true_and];rfl
theorem whole_run (P:(Nat → Int) → Prop) (hP:∀ X F a,WS p u X F → P X → a < u.length → fullB u F a = false → (∀ v,v < u.length → fullB u F v = false → (X a + 1) * wI u v ≤ (X v + 1) * wI u a) → P (fun v=>if v = a then X a + 1 else X v)):∀ (c:Nat) (X F:Nat → Int),WS p u X F → P X → 1201 - sumI u.length X ≤ (c:Int) → ∃ Y G,WS p u Y G ∧ P Y ∧ (∀ v,v < u.length → fullB u G v = true) ∧ Ev (fun k=>shares_Whole.l0 k u (tab u.length X) p u (tab p.length F)) (tab u.length Y,0) ∧ Ev (fun k=>numnahref07_Portions.l0 k u (tab u.length X) (tab p.length F)) (tab u.length Y):=by
 have h6:=(isN hok).u6
 have h5:=(isN hok).p5
 intro c
 induction c with
 | zero =>
  intro X F hW hPX hc
  have h1:=sumI_le (m:=u.length) (f:=X) (b:=200) fun v hv=>hW.le hok hv
  omega
 | succ c ih =>
  intro X F hW hPX hc
  have hX:∀ v,v < u.length → 0 ≤ X v ∧ X v ≤ 200:=fun v hv=>⟨hW.x0 v hv,hW.le hok hv⟩
  have h0:PkOk u X F 0 (-1):=⟨fun _=>⟨rfl,fun v hv=>by omega⟩,fun h=>by omega⟩
  have hall:=h0.all hok (d:=u.length) (by omega)
  by_cases hneg:pk u X F u.length 0 (-1) < 0
  ·refine ⟨X,F,hW,hPX,(hall.1 hneg).2,?_,?_⟩
   ·refine Ev.step (fun k=>by rw [shares_Whole.l0];rfl) (whole_l1 hok hX u.length 0 (-1) (by omega) h0 (by omega) (fun _=>rfl) (fun h=>by omega))
   ·refine Ev.step (fun k=>by rw [numnahref07_Portions.l0];rfl) (ports_l1 hok hX hW.f0 u.length 0 (-1) (by omega) (by omega) (fun _=>rfl) (fun h=>by omega))
  ·obtain ⟨a1,a2,a3⟩:=hall.2 (by omega)
   have ha:(pk u X F u.length 0 (-1)).toNat < u.length:=by omega
   have hs:=hW.step hok ha a2
   have hPn:=hP X F _ hW hPX ha a2 a3
   have hsum:sumI u.length (fun v=>if v = (pk u X F u.length 0 (-1)).toNat then X (pk u X F u.length 0 (-1)).toNat + 1 else X v) = sumI u.length X + 1:=by
    rw [sumI_upd (f:=X) ha (fun v hv=>if_neg hv)]
    simp only [if_true];omega
   obtain ⟨Y,G,hY,hPY,hfull,e1,e2⟩:=ih _ _ hs hPn (by omega)
   have ed:tab p.length (fun q=>F q - cI u (pk u X F u.length 0 (-1)).toNat q) = tab p.length (dec F ((pipesOf u (pk u X F u.length 0 (-1)).toNat).drop 0)):=rfl
   rw [ed] at e1 e2
   have hFb:∀ q,q < p.length → ((pipesOf u (pk u X F u.length 0 (-1)).toNat).length:Int) - 10 ≤ F q ∧ F q ≤ 200:=fun q hq=>by
    have:=hW.f0 q hq
    have:=hW.cap hok hq
    have:=(pipes_len hok ha).2
    omega
   refine ⟨Y,G,hY,hPY,hfull,?_,?_⟩
   ·refine Ev.step (fun k=>by rw [shares_Whole.l0];rfl) (whole_l1 hok hX u.length 0 (-1) (by omega) h0 (by omega) (fun h=>absurd h hneg) (fun _=>?_))
    exact whole_l2 hok (pipes_len hok ha).2 (pipes_in hok ha) _ 0 F (by omega) hFb e1
   ·refine Ev.step (fun k=>by rw [numnahref07_Portions.l0];rfl) (ports_l1 hok hX hW.f0 u.length 0 (-1) (by omega) (by omega) (fun h=>absurd h hneg) (fun _=>?_))
    exact ports_l3 hok ha _ 0 F (by omega) hFb e2
end
end Go.Proofs.Ytjohcjfmlhihbaa.P
namespace Go.Proofs.Ytjohcjfmlhihbaa.G
open Go.RowKit Go.Proofs.YtjohcjfmlhihbaaW.PrintWords Go.Proofs.YtjohcjfmlhihbaaW.PrintLast Go.Proofs.YtjohcjfmlhihbaaW.PrintMore
set_option maxHeartbeats 8000000
set_option maxRecDepth 100000
attribute [local go_sem] cond_true cond_false fld23_0 fld23_1 fld45_0 fld45_1 fld109_0 fld109_1 fld94_0 fld94_1 max2_int min2_int max_two min_two max_three min_three max_four min_four   -- for this text's walks alone
attribute [local go_sem high] eqA23
def numnahlaw07_ints.l0:Nat → List Int → List Int → Int → Option (Bool)
 | 0,_,_,_=>none
 | k + 1,x0,x1,x5=>if x5 < (x0.length:Int) then (if 0 ≤ x5 then (if x5 < (x1.length:Int) then (if (rd x0 x5) = (rd x1 x5) then (numnahlaw07_ints.l0 k x0 x1 (wrap64 (x5 + 1))) else (some false)) else (none)) else (none)) else (some true)
def numnahlaw07_ints.f (k:Nat) (l0:List Int) (l1:List Int):Option (Bool):=if (l0.length:Int) = (l1.length:Int) then (numnahlaw07_ints.l0 k l0 l1 0) else (some false)
theorem numnahlaw07_ints.mono_l:∀ k,(∀ y0 y1 y2,LeO (numnahlaw07_ints.l0 k y0 y1 y2) (numnahlaw07_ints.l0 (k + 1) y0 y1 y2))
 | 0=>fun _ _ _ r h=>by simp [numnahlaw07_ints.l0] at h
 | k + 1=>by
  have b9:=numnahlaw07_ints.mono_l k
  intro y0 y1 y2
  unfold numnahlaw07_ints.l0
  repeat' first
  | (with_reducible exact b9 _ _ _)
  | (with_reducible exact LeO.refl _)
  | (with_reducible exact LeO.none _)
  | (with_reducible refine LeO.ite ?_ ?_)
  | (with_reducible refine LeO.bind ?_ (fun _=>?_))
  | exact b9 _ _ _
  | exact LeO.none _
  | refine LeO.ite ?_ ?_
  | refine LeO.bind ?_ (fun _=>?_)
theorem numnahlaw07_ints.mono:∀ a0 a1 k,LeO (numnahlaw07_ints.f k a0 a1) (numnahlaw07_ints.f (k + 1) a0 a1):=by
 intro a0 a1 k
 have b9:=numnahlaw07_ints.mono_l k
 unfold numnahlaw07_ints.f
 repeat' first
   | (with_reducible exact b9 _ _ _)
   | (with_reducible exact LeO.refl _)
   | (with_reducible exact LeO.none _)
   | (with_reducible refine LeO.ite ?_ ?_)
   | (with_reducible refine LeO.bind ?_ (fun _=>?_))
   | exact b9 _ _ _
   | exact LeO.none _
   | refine LeO.ite ?_ ?_
   | refine LeO.bind ?_ (fun _=>?_)
theorem numnahlaw07_ints.calls (k:Nat) (A0:Option Addr) (c0:Nat) (l0:List Int) (A1:Option Addr) (c1:Nat) (l1:List Int) (r:Bool) (w:World) (d8:Kd.C (Kd.int .i64) w A0 l0.length l0) (d9:l0.length ≤ c0) (e0:Kd.C (Kd.int .i64) w A1 l1.length l1) (e1:l1.length ≤ c1) (h:numnahlaw07_ints.f k l0 l1 = some r) :
  Calls Try.prog 46 #[.slice A0 l0.length c0,.slice A1 l1.length c1] w fun e w'=>e = .returned (.bool r) ∧ Drawn0 w w':=by
 have e2:=Aside0.mk d8
 have e7:=Aside0.mk d9
 clear d8 d9
 have e3:=Aside0.mk e0
 have e8:=Aside0.mk e1
 clear e0 e1
 have H:(if (l0.length:Int) = (l1.length:Int) then (numnahlaw07_ints.l0 k l0 l1 0) else (some false)) = some r:=h
 clear h
 by_cases c3:(l0.length:Int) = (l1.length:Int)
 case neg =>
  rw [if_neg c3] at H
  have d0:((l0.length:Int) == (l1.length:Int)) = false:=beq_eq_false_iff_ne.mpr c3
  have d1:((l0.length:Int) != (l1.length:Int)) = true:=bne_iff_ne.mpr c3
  have d2:(l0.length == l1.length) = false:=by first | simpa using c3 | (simp at c3 ⊢;omega)
  obtain rfl:=Option.some.inj H
  go_enter Try.func46,Try.ntmps46
  go_wp2
  repeat (go_quiet (fail);try go_wp2)
  go_ret
  exact ⟨by first | rfl | (simp;done) | (simp [*];done),by repeat (first | exact Drawn0.refl _ | apply Drawn0.step)⟩
 rw [if_pos c3] at H
 have d0:((l0.length:Int) == (l1.length:Int)) = true:=beq_iff_eq.mpr c3
 have d1:((l0.length:Int) != (l1.length:Int)) = false:=bne_eq_false_iff_eq.mpr c3
 have d2:(l0.length == l1.length) = true:=by first | simpa using c3 | (simp at c3 ⊢;omega)
 clear c3
 have H':=Aside0.mk H
 clear H
 go_enter Try.func46,Try.ntmps46
 go_wp2
 repeat (go_quiet (fail);try go_wp2)
 go_loopg [5] k (fun kq v5 w'=>∃ (b0:Int),v5 = .int .i64 b0 ∧ Aside0 (numnahlaw07_ints.l0 kq l0 l1 b0 = some r) ∧ Aside0 (kq ≤ k) ∧ Drawn0 w w')
 case atStart=>exact ⟨(0),(by first | rfl | (simp;done) | (simp [*];done)),H',⟨Nat.le_refl _⟩,by repeat (first | exact Drawn0.refl _ | apply Drawn0.step)⟩
 case round =>
  clear H'
  try clear c1
  try clear p2
  try clear c3
  try clear d0
  try clear d1
  try clear d2
  obtain ⟨b0,rfl,HA,e4,⟨m1,rfl⟩⟩:=hrel
  cases gk with
  | zero=>exact absurd HA.out (by simp [numnahlaw07_ints.l0])
  | succ k1 =>
   have H:=HA.out
   clear HA
   simp only [numnahlaw07_ints.l0] at H
   by_cases c4:b0 < (l0.length:Int)
   case neg =>
    rw [if_neg c4] at H
    have d5:decide (b0 < (l0.length:Int)) = false:=decide_eq_false c4
    clear c4
    obtain rfl:=Option.some.inj H
    go_wp2
    repeat (go_quiet (fail);try go_wp2)
    go_ret
    exact ⟨by first | rfl | (simp;done) | (simp [*];done),by repeat (first | exact Drawn0.refl _ | apply Drawn0.step)⟩
   rw [if_pos c4] at H
   have d5:decide (b0 < (l0.length:Int)) = true:=decide_eq_true c4
   clear c4
   by_cases c5:0 ≤ b0
   case neg =>
    rw [if_neg c5] at H
    exact absurd H (by simp)
   rw [if_pos c5] at H
   have e5:decide (0 ≤ b0) = true:=decide_eq_true c5
   clear c5
   by_cases c6:b0 < (l1.length:Int)
   case neg =>
    rw [if_neg c6] at H
    exact absurd H (by simp)
   rw [if_pos c6] at H
   have e6:decide (b0 < (l1.length:Int)) = true:=decide_eq_true c6
   clear c6
   by_cases c7:(rd l0 b0) = (rd l1 b0)
   case neg =>
    rw [if_neg c7] at H
    have d6:((rd l0 b0) == (rd l1 b0)) = false:=beq_eq_false_iff_ne.mpr c7
    have d7:((rd l0 b0) != (rd l1 b0)) = true:=bne_iff_ne.mpr c7
    obtain rfl:=Option.some.inj H
    have b1:0 ≤ (b0:Int):=of_decide_eq_true (by first | (with_reducible assumption) | assumption)
    have b2:b0 < (l0.length:Int):=of_decide_eq_true (by first | (with_reducible assumption) | assumption)
    obtain ⟨d3,b7,b5⟩:=Kd.at_int e2.out b0 b1 b2
    cases b7
    replace b1:=eq_true b1
    replace b2:=eq_true b2
    have b3:0 ≤ (b0:Int):=of_decide_eq_true (by first | (with_reducible assumption) | assumption)
    have b4:b0 < (l1.length:Int):=of_decide_eq_true (by first | (with_reducible assumption) | assumption)
    obtain ⟨d4,b8,b6⟩:=Kd.at_int e3.out b0 b3 b4
    cases b8
    replace b3:=eq_true b3
    replace b4:=eq_true b4
    go_wp2
    repeat (go_quiet (fail);try go_wp2)
    go_ret
    exact ⟨by first | rfl | (simp;done) | (simp [*];done),by repeat (first | exact Drawn0.refl _ | apply Drawn0.step)⟩
   rw [if_pos c7] at H
   have d6:((rd l0 b0) == (rd l1 b0)) = true:=beq_iff_eq.mpr c7
   have d7:((rd l0 b0) != (rd l1 b0)) = false:=bne_eq_false_iff_eq.mpr c7
   clear c7
   have H':=Aside0.mk H
   clear H
   have b1:0 ≤ (b0:Int):=of_decide_eq_true (by first | (with_reducible assumption) | assumption)
   have b2:b0 < (l0.length:Int):=of_decide_eq_true (by first | (with_reducible assumption) | assumption)
   obtain ⟨d3,b7,b5⟩:=Kd.at_int e2.out b0 b1 b2
   cases b7
   replace b1:=eq_true b1
   replace b2:=eq_true b2
   have b3:0 ≤ (b0:Int):=of_decide_eq_true (by first | (with_reducible assumption) | assumption)
   have b4:b0 < (l1.length:Int):=of_decide_eq_true (by first | (with_reducible assumption) | assumption)
   obtain ⟨d4,b8,b6⟩:=Kd.at_int e3.out b0 b3 b4
   cases b8
   replace b3:=eq_true b3
   replace b4:=eq_true b4
   go_wp2
   repeat (go_quiet (fail);try go_wp2)
   go_roundg k1
   case measure=>have:=e4.out;omega
   case rel=>exact ⟨(wrap64 (b0 + 1)),(by first | rfl | (simp;done) | (simp [*];done)),H',⟨by have:=e4.out;omega⟩,by repeat (first | exact Drawn0.refl _ | apply Drawn0.step)⟩
end Go.Proofs.Ytjohcjfmlhihbaa.G
set_option linter.unusedSectionVars false
namespace Go.Proofs.Ytjohcjfmlhihbaa.P
open Go Go.RowKit Go.Proofs.Ytjohcjfmlhihbaa.G
open Go.Proofs.YtjohcjfmlhihbaaW.PrintWords Go.Proofs.YtjohcjfmlhihbaaW.PrintMore
theorem tab_self (p:List Int):tab p.length (fun q=>rd p (q:Int)) = p:=by
 apply List.ext_getElem
 ·rw [tab_length]
 ·intro i h1 h2
  rw [tab_get,rd_get h2]
theorem ints_l0 {a:List Int} (ha:a.length ≤ 1000000):∀ d i,i + d = a.length → Ev (fun k=>numnahlaw07_ints.l0 k a a (i:Int)) true:=by
 intro d
 induction d with
 | zero =>
  intro i hi
  refine Ev.step (f:=fun _=>some true) (fun k=>?_) (Ev.now _)
  rw [numnahlaw07_ints.l0,if_neg (by omega)]
 | succ d ih =>
  intro i hi
  refine Ev.step (fun k=>?_) (ih (i + 1) (by omega))
  rw [numnahlaw07_ints.l0,if_pos (by omega),if_pos (by omega),if_pos (by omega),if_pos rfl,wrap_succ (by omega)]
theorem ev_ints {a:List Int} (ha:a.length ≤ 1000000):Ev (fun k=>numnahlaw07_ints.f k a a) true:=by
 unfold numnahlaw07_ints.f
 exact Ev.congr (fun k=>if_pos rfl) (ints_l0 ha a.length 0 (by omega))
theorem ev_Whole2 {p:List Int} {u:List S45} (hok:okNet p u = true) (hf:H.fitL p) (hul:∀ a ∈ u,a.f1.length ≤ 1000000) (P:(Nat → Int) → Prop) (hP0:P (fun _=>0)) (hP:∀ X F a,WS p u X F → P X → a < u.length → fullB u F a = false → (∀ v,v < u.length → fullB u F v = false → (X a + 1) * wI u v ≤ (X v + 1) * wI u a) → P (fun v=>if v = a then X a + 1 else X v)) :
  ∃ Y G,WS p u Y G ∧ P Y ∧ (∀ v,v < u.length → fullB u G v = true) ∧ Ev (fun k=>shares_Whole.f k p u) (tab u.length Y,0) ∧ Ev (fun k=>numnahref07_Portions.f k p u) (tab u.length Y):=by
 have h6:=(isN hok).u6
 have h5:=(isN hok).p5
 have e0:=ev_newNet (p:=p) (u:=u) (by omega) (by omega) hf hul
 rw [hok] at e0
 obtain ⟨Y,G,h1,h2,h3,e1,e2⟩:=whole_run hok P hP 1201 _ _ (WS.start hok) hP0 (by
  have:=sumI_nonneg (m:=u.length) (f:=fun _=>0) fun _ _=>Int.le_refl _
  omega)
 rw [tab_self,← tab_rep] at e1 e2
 refine ⟨Y,G,h1,h2,h3,?_,?_⟩
 ·unfold shares_Whole.f slices_Clone_int_int.f
  refine Ev.bind e0 (Ev.congr (fun k=>?_) e1)
  rw [if_pos rfl,Option.bind_some,if_pos (by simp only [List.length_nil];omega),Option.bind_some,if_pos (by omega),if_pos (by omega),Int.toNat_natCast,List.nil_append]
 ·unfold numnahref07_Portions.f
  refine Ev.congr (fun k=>?_) e2
  rw [if_pos (by omega),if_pos (by omega),if_pos (by simp only [List.length_nil];omega),Int.toNat_natCast,List.nil_append]
end Go.Proofs.Ytjohcjfmlhihbaa.P
set_option linter.unusedSectionVars false
namespace Go.Proofs.Ytjohcjfmlhihbaa.G
open Go.RowKit Go.Proofs.YtjohcjfmlhihbaaW.PrintWords Go.Proofs.YtjohcjfmlhihbaaW.PrintLast Go.Proofs.YtjohcjfmlhihbaaW.PrintMore
attribute [local go_sem] max2_int min2_int max_two min_two max_three min_three max_four min_four   -- for this text's walks alone
set_option linter.unusedVariables false
set_option linter.unusedSimpArgs false
def numnahlaw07_list.f (l0:List Int):Option ((List Int)):=if 0 ≤ (mn (l0.length:Int) 11) then (if (mn (l0.length:Int) 11) ≤ (l0.length:Int) then ((some (l0.take ((mn (l0.length:Int) 11):Int).toNat:List Int)).bind fun y101=>(if ([]:List Int).length + y101.length < 8796093022208 then (some (([]:List Int) ++ y101)) else (none))) else (none)) else (none)
set_option maxHeartbeats 8000000 in
set_option maxRecDepth 100000 in
theorem numnahlaw07_list.calls (A0:Option Addr) (c0:Nat) (l0:List Int) (r:List Int) (w:World) (hr0:Kd.C (Kd.int .i64) w A0 l0.length l0) (hc0:l0.length ≤ c0) (h:numnahlaw07_list.f l0 = some r) :
  Calls Try.prog 35 #[.slice A0 l0.length c0] w fun e w'=>∃ v0_:Value,e = .returned (v0_) ∧ Kd.R (Kd.int .i64) 3 w' w.heap.size (fun _=>True) v0_ r ∧ Below w.heap.size w w':=by
 have HR0:=Aside0.mk hr0
 have HC0:=Aside0.mk hc0
 clear hr0 hc0
 have HB:=Aside0.mk (Below.refl w.heap.size w)
 have H:(if 0 ≤ (mn (l0.length:Int) 11) then (if (mn (l0.length:Int) 11) ≤ (l0.length:Int) then ((some (l0.take ((mn (l0.length:Int) 11):Int).toNat:List Int)).bind fun y101=>(if ([]:List Int).length + y101.length < 8796093022208 then (some (([]:List Int) ++ y101)) else (none))) else (none)) else (none)) = some r:=h
 clear h
 obtain ⟨ji2,hji2⟩:∃ j_:Int,(mn (l0.length:Int) 11) = j_:=⟨_,rfl⟩
 replace H:(if 0 ≤ (ji2) then (if (ji2) ≤ (l0.length:Int) then ((some (l0.take ((ji2):Int).toNat:List Int)).bind fun y101=>(if ([]:List Int).length + y101.length < 8796093022208 then (some (([]:List Int) ++ y101)) else (none))) else (none)) else (none)) = some r:=by first | (rw [hji2] at H;exact H) | (simp only [hji2] at H ⊢;exact H)
 (try (have hji2h:ji2 ≤ 11:=by (rw [← hji2];unfold mn;(repeat' split) <;> omega)))
 (try (have hji2g:ji2 ≤ 64:=by omega))
 (try (have hji2l:0 ≤ ji2:=by (rw [← hji2];unfold mn;(repeat' split) <;> omega)))
 (try (have hji2m:0 ≤ ji2:=by omega))
 have hji2_:(if 11 < (l0.length:Int) then 11 else (l0.length:Int)) = ji2:=hji2
 by_cases c3:0 ≤ (ji2)
 ·rw [if_pos c3] at H
  have c3b0:=eq_true c3
  have c3b1:decide (0 ≤ (ji2)) = true:=decide_eq_true c3
  clear c3
  by_cases c4:(ji2) ≤ (l0.length:Int)
  ·rw [if_pos c4] at H
   have c4b0:=eq_true c4
   have c4b1:decide ((ji2) ≤ (l0.length:Int)) = true:=decide_eq_true c4
   clear c4
   obtain ⟨y101,hy101⟩:∃ y_:List Int,y_ = (l0.take ((ji2):Int).toNat):=⟨_,rfl⟩
   replace H:(if ([]:List Int).length + y101.length < 8796093022208 then (some (([]:List Int) ++ y101)) else (none)) = some r:=by first | (rw [hy101];with_reducible exact H) | (have H2_:=(Option.bind_some _ _).symm.trans H;rw [hy101];with_reducible exact H2_) | (have H2_:=(Option.bind_some _ _).symm.trans H;with_reducible exact H2_) | with_reducible exact H | (rw [hy101];exact H) | exact H
   have Ny101:=Aside0.mk hy101
   clear hy101
   by_cases c5:([]:List Int).length + y101.length < 8796093022208
   ·rw [if_pos c5] at H
    have LMc5:=Aside0.mk c5
    clear c5
    obtain ⟨y105,hy105⟩:∃ y_:List Int,y_ = (([]:List Int) ++ y101):=⟨_,rfl⟩
    replace H:(some y105) = some r:=by first | (rw [hy105];with_reducible exact H) | (have H2_:=(Option.bind_some _ _).symm.trans H;rw [hy105];with_reducible exact H2_) | (have H2_:=(Option.bind_some _ _).symm.trans H;with_reducible exact H2_) | with_reducible exact H | (rw [hy105];exact H) | exact H
    have Ny105:=Aside0.mk hy105
    clear hy105
    obtain rfl:=Option.some.inj H
    have q6:((ji2):Int) ≤ ((l0.length:Int):Int):=of_decide_eq_true (by first | (with_reducible assumption) | assumption)
    obtain ⟨i06,hi06,_,hsz6,_⟩:=info_parts info3
    have hroom6:l0.length ≤ c0:=HC0.out
    have hC6:Kd.C (Kd.int .i64) _ A0 l0.length l0:=HR0.out
    have hcut6:=cut_to (P:=Try.prog) 28 3 .i64 Try.underlying28 hi06 A0 l0.length c0 (ji2) (of_decide_eq_true (by first | (with_reducible assumption) | assumption)) q6 hroom6
    have hr6:=Kd.C_take (m:=((ji2):Int).toNat) hC6 (by omega)
    have hy6:y101.length = ((ji2):Int).toNat:=(by rw [Ny101.out,List.length_take];omega)
    rw [← Ny101.out] at hr6
    rw [← hy6] at hcut6
    have HR104:=Aside0.mk hr6
    have HC104:=Aside0.mk (show y101.length ≤ c0 from by omega)
    clear hr6 hC6 hroom6 hi06 hsz6
    have KY6:=Aside0.mk hy6
    clear hy6
    replace q6:=eq_true q6
    go_enter Try.func35,Try.ntmps35
    go_wp2_with (first | ((with_reducible refine gate_builtin (b:=.append) (xs:=#[.tmp 4,.tmp 9]) rfl ?_);at_builtin;refine Kd.R_append_rows (Kd.int .i64) (w0:=w) w.heap.size rfl (.tmp 4) (.tmp 9) 28 3 (.int .i64 0) 8 rfl Try.underlying28 info3 rfl (by decide) (by omega) (.slice none 0 0) ([]:List Int) y101 _ _ _ (fun _=>True) (fun _=>False) rfl rfl ?aO ?aR (fun _ _ h=>h) (fun _ h=>h.elim) ?aF ?aB ?aS ?aL ?_;(case aR=>repeat (first | exact HR104.out | (with_reducible refine Kd.C_alloc ?_ _) | (with_reducible refine Kd.C_drewN ?_ _) | (with_reducible refine Kd.C_drew ?_)));(case aB=>exact (by repeat (first | (with_reducible first | exact HB.out | apply below_alloc | apply pw_below_drewN | apply below_drew1) | exact HB.out)));(case aF=>exact (fun _ _=>trivial));(case aO=>exact ((Kd.R_nil _ _ _ _ (fun _=>True))));(case aS=>exact (below_size (by repeat (first | (with_reducible first | exact HB.out | apply below_alloc | apply pw_below_drewN | apply below_drew1) | exact HB.out))));(case aL=>have:=LMc5.out;omega);intro v106 w7 ho hb hg hat;rw [← Ny105.out] at ho;have n0_:=Aside0.mk (hb);have n1_:=Aside0.mk (ho);clear HB;have HB:=n0_;have HO107:=n1_;clear n0_ n1_;clear ho hb hg hat))
    go_ret
    exact ⟨_,by first | rfl | (simp [errW_none,errW_some] <;> rfl) | (simp only [← hji2];first | rfl | (simp [errW_none,errW_some] <;> rfl)) | (simp [*,errW_none,errW_some] <;> rfl),by (with_reducible repeat (first | apply Kd.R_alloc | apply Kd.R_drewN | apply Kd.R_drew));exact HO107.out,by repeat (first | (with_reducible first | exact HB.out | apply below_alloc | apply pw_below_drewN | apply below_drew1) | exact HB.out)⟩
   ·rw [if_neg c5] at H
    exact absurd H (by simp)
  ·rw [if_neg c4] at H
   exact absurd H (by simp)
 ·rw [if_neg c3] at H
  exact absurd H (by simp)
end Go.Proofs.Ytjohcjfmlhihbaa.G
namespace Go.Proofs.Ytjohcjfmlhihbaa.G
open Go.RowKit Go.Proofs.YtjohcjfmlhihbaaW.PrintWords Go.Proofs.YtjohcjfmlhihbaaW.PrintLast Go.Proofs.YtjohcjfmlhihbaaW.PrintMore
set_option maxHeartbeats 8000000
set_option maxRecDepth 100000
attribute [local go_sem] cond_true cond_false fld23_0 fld23_1 fld45_0 fld45_1 fld109_0 fld109_1 fld94_0 fld94_1 max2_int min2_int max_two min_two max_three min_three max_four min_four
def numnahlaw07_group.l0:Nat → List (S45) → List (S45) → Int → Option ((List (S45)))
 | 0,_,_,_=>none
 | k + 1,x0,x3,x4=>if x4 < (x0.length:Int) then (if x4 ≤ 6 then (if 0 ≤ x4 then ((numnahlaw07_list.f ((rd_T45 x0 x4).f1)).bind fun d0=>(if x3.length < 4398046511104 then (numnahlaw07_group.l0 k x0 (x3 ++ [(⟨(rd_T45 x0 x4).f0,d0⟩:S45)]) (wrap64 (x4 + 1))) else (none))) else (none)) else (some x3)) else (some x3)
def numnahlaw07_group.f (k:Nat) (l0:List (S45)):Option ((List (S45))):=numnahlaw07_group.l0 k l0 ([]:List (S45)) 0
theorem numnahlaw07_group.mono_l:∀ k,(∀ y0 y1 y2,LeO (numnahlaw07_group.l0 k y0 y1 y2) (numnahlaw07_group.l0 (k + 1) y0 y1 y2))
 | 0=>fun _ _ _ r h=>by simp [numnahlaw07_group.l0] at h
 | k + 1=>by
  have h1:=numnahlaw07_group.mono_l k
  intro y0 y1 y2
  unfold numnahlaw07_group.l0
  repeat' first
  | (with_reducible first | exact h1 _ _ _ | exact LeO.refl _ | exact LeO.none _ | refine LeO.ite ?_ ?_ | refine LeO.bind ?_ (fun _=>?_))
  | exact LeO.none _ | refine LeO.ite ?_ ?_ | refine LeO.bind ?_ (fun _=>?_)
theorem numnahlaw07_group.mono:∀ a0 k,LeO (numnahlaw07_group.f k a0) (numnahlaw07_group.f (k + 1) a0):=by
 intro a0 k
 have h1:=numnahlaw07_group.mono_l k
 unfold numnahlaw07_group.f
 repeat' first
   | (with_reducible first | exact h1 _ _ _ | exact LeO.refl _ | exact LeO.none _ | refine LeO.ite ?_ ?_ | refine LeO.bind ?_ (fun _=>?_))
   | exact LeO.none _ | refine LeO.ite ?_ ?_ | refine LeO.bind ?_ (fun _=>?_)
def numnahlaw07_group.T5:Bool × List (List Nat × List Nat):=(true,[([],[]),([],[]),([],[]),([1,2],[1,2]),([3],[3]),([4],[4]),([],[]),([],[]),([6,7],[6,7]),([8],[8]),([9],[9]),([10],[10]),([5,11],[5,11]),([12],[12]),([0,13,11],[0,13]),([14,14,0,1,2,3,4,5,6,7,8,9,10,11,12,13,14],[0,14])])
def numnahlaw07_group.B5:List Nat:=[0,0,0,6,14,30,0,0,192,448,960,1984,4094,8190,16383,32767]
theorem numnahlaw07_group.tab5:rtab .any (opsOf Try.f39 5) = numnahlaw07_group.T5:=by kernel_rfl
theorem numnahlaw07_group.bits5:waitsOk numnahlaw07_group.T5.2 numnahlaw07_group.B5 = true:=by kernel_rfl
theorem numnahlaw07_group.calls (k:Nat) (A0:Option Addr) (c0:Nat) (l0:List (S45)) (r:List (S45)) (w:World) (i0:Kd.C k45 w A0 l0.length l0) (i1:l0.length ≤ c0) (h:numnahlaw07_group.f k l0 = some r) :
  Calls Try.prog 39 #[.slice A0 l0.length c0] w fun e w'=>∃ i2:Value,e = .returned (i2) ∧ Kd.S k45 45 w' w.heap.size (fun _=>True) i2 r ∧ Below w.heap.size w w':=by
 have j8:=Try.underlying45
 have i3:=A_ i0
 have m0:=A_ i1
 clear i0 i1
 have HB:=A_ (Below.refl w.heap.size w)
 have H:(numnahlaw07_group.l0 k l0 ([]:List (S45)) 0) = some r:=h
 clear h
 have H':=A_ H
 clear H
 go_enter Try.func39,Try.ntmps39
 go_wp2
 go_loopg [3,4] k (fun kq v3 v4 w'=>∃ (d1:List (S45)) (b0:Int),v4 = .int .i64 b0 ∧ Aside0 (numnahlaw07_group.l0 kq l0 d1 b0 = some r) ∧ Aside0 (kq ≤ k) ∧ Aside0 (Kd.S k45 45 w' w.heap.size (fun _=>True) v3 d1) ∧ Aside0 (Below w.heap.size w w'))
 case atStart=>exact ⟨(([]:List (S45))),(0),(by first | rfl | (simp;done) | (simp [*];done)),H',⟨Nat.le_refl _⟩,⟨by first | exact Kd.S_nil _ _ _ _ _ | exact Kd.N_nil _ _ _ _ _ | exact Kd.V_nil _ _ _ _ _ | exact Kd.Q_nil _ _ _ _ _ | exact Kd.R_nil _ _ _ _ _⟩,⟨bl HB⟩⟩
 case round =>
  clear H'
  obtain ⟨d1,b0,rfl,HA,i4,b9,HB⟩:=hrel
  cases gk with
  | zero=>exact absurd HA.out (by simp [numnahlaw07_group.l0])
  | succ k1 =>
   have H:=HA.out
   clear HA
   simp only [numnahlaw07_group.l0] at H
   by_cases c2:b0 < (l0.length:Int)
   case neg =>
    rw [if_neg c2] at H
    have h2:=decide_eq_false c2
    clear c2
    obtain rfl:=Option.some.inj H
    go_wp2
    go_ret
    exact ⟨_,by first | rfl | (simp [errW_none,errW_some] <;> rfl) | (simp [*,errW_none,errW_some] <;> rfl),by (with_reducible repeat (first | apply Kd.S_alloc | apply Kd.S_drewN | apply Kd.S_drew));exact b9.out,bl HB⟩
   rw [if_pos c2] at H
   have h2:=decide_eq_true c2
   clear c2
   by_cases c3:b0 ≤ 6
   case neg =>
    rw [if_neg c3] at H
    have h3:=decide_eq_false c3
    clear c3
    obtain rfl:=Option.some.inj H
    go_wp2
    go_ret
    exact ⟨_,by first | rfl | (simp [errW_none,errW_some] <;> rfl) | (simp [*,errW_none,errW_some] <;> rfl),by (with_reducible repeat (first | apply Kd.S_alloc | apply Kd.S_drewN | apply Kd.S_drew));exact b9.out,bl HB⟩
   rw [if_pos c3] at H
   have h3:=decide_eq_true c3
   clear c3
   replace H:=gd H
   obtain ⟨c4,H⟩:=H
   have j9:=decide_eq_true c4
   clear c4
   replace H:=Option.bind_eq_some_iff.mp H
   obtain ⟨d0,i5,H⟩:=H
   replace H:(if d1.length < 4398046511104 then (numnahlaw07_group.l0 k1 l0 (d1 ++ [(⟨(rd_T45 l0 b0).f0,d0⟩:S45)]) (wrap64 (b0 + 1))) else (none)) = some r:=H
   have A5:=A_ i5
   clear i5
   replace H:=gd H
   obtain ⟨c6,H⟩:=H
   have h4:=A_ c6
   clear c6
   obtain ⟨h5,e0⟩:∃ y_:List (S45),y_ = (d1 ++ [(⟨(rd_T45 l0 b0).f0,d0⟩:S45)]):=⟨_,rfl⟩
   rw [← e0] at H
   have e7:=A_ e0
   clear e0
   have H':=A_ H
   clear H
   try go_wp2
   replace b9:=A_ (Kd.S_drew b9.out)
   replace HB:=bD HB
   have e3:0 ≤ (b0:Int):=of_decide_eq_true (by first | (with_reducible assumption) | assumption)
   have e4:b0 < (l0.length:Int):=of_decide_eq_true (by first | (with_reducible assumption) | assumption)
   obtain ⟨c1,d2,d3,h6,b7,b5,d4,d5⟩:=at_T45 i3.out b0 e3 e4
   have b1:=b5
   have b2:=b7
   cases h6
   replace b7:=(HB.out.cell (World.block_lt_of_cell? w _ b7)).trans b7
   replace b5:=(HB.out.cell (World.block_lt_of_cell? w _ b5)).trans b5
   have e1:=A_ d5
   have h0:=A_ d4
   clear d5 d4
   replace e3:=eq_true e3
   replace e4:=eq_true e4
   have e5:0 ≤ (b0:Int):=of_decide_eq_true (by first | (with_reducible assumption) | assumption)
   have e6:b0 < (l0.length:Int):=of_decide_eq_true (by first | (with_reducible assumption) | assumption)
   obtain ⟨e8,h7,h8,h9,b8,b6,d6,d7⟩:=at_T45 i3.out b0 e5 e6
   have b3:=b6
   have b4:=b8
   obtain rfl:c1 = e8:=(by injection h9)
   replace b8:=(HB.out.cell (World.block_lt_of_cell? w _ b8)).trans b8
   replace b6:=(HB.out.cell (World.block_lt_of_cell? w _ b6)).trans b6
   have d8:=A_ d7
   have e2:=A_ d6
   clear d7 d6
   replace e5:=eq_true e5
   replace e6:=eq_true e6
   have ea_:=Option.some.inj (b5.symm.trans b6)
   injection ea_ with ea_ en_ ec_
   subst ea_
   subst ec_
   clear en_
   refine start_ (n:=16) (S:=fun w'=>w'.cell? (c1.add ((b0).toNat * 2)) = some (.int .i64 ((rd_T45 l0 b0).f0)) ∧ w'.cell? ⟨(c1.add ((b0).toNat * 2)).block,(c1.add ((b0).toNat * 2)).off + 1,none⟩ = some (.slice d2 ((rd_T45 l0 b0).f1).length d3) ∧ w'.cell? (c1.add ((b0).toNat * 2)) = some (.int .i64 ((rd_T45 l0 b0).f0)) ∧ w'.cell? ⟨(c1.add ((b0).toNat * 2)).block,(c1.add ((b0).toNat * 2)).off + 1,none⟩ = some (.slice d2 ((rd_T45 l0 b0).f1).length d3)) (ds:=[]) (ba 16 0) (by kernel_rfl) rfl rfl ⟨((HB.out.cell (World.block_lt_of_cell? w _ b2)).trans b2),((HB.out.cell (World.block_lt_of_cell? w _ b1)).trans b1),((HB.out.cell (World.block_lt_of_cell? w _ b4)).trans b4),((HB.out.cell (World.block_lt_of_cell? w _ b3)).trans b3)⟩ (fun hHeld=>?_);refine with_tabW numnahlaw07_group.tab5 numnahlaw07_group.bits5 (fun HT_ HW_=>?_)
   generalize wr.drew = w7 at b9 HB e1 d8 b7 b5 b8 b6 hHeld ⊢
   refine pq 0 15 1 HT_ ?_
   refine pq 1 16 3 HT_ ?_
   refine pq 2 17 7 HT_ ?_
   refine pq 3 18 15 HT_ ?_
   refine pq 4 19 31 HT_ ?_
   refine pq 6 21 95 HT_ ?_
   refine pq 7 22 223 HT_ ?_
   refine pq 8 23 479 HT_ ?_
   refine pq 9 24 991 HT_ ?_
   refine tq 5 20 1023 HT_ HW_ hHeld ?_
   refine tq 10 25 2047 HT_ HW_ hHeld ?_
   refine oq 11 26 4095 HT_ (fun K hK=>?_)
   refine gq Try.func35 #[.slice d2 ((rd_T45 l0 b0).f1).length d3] ?_
   with_reducible refine (numnahlaw07_list.calls _ _ ((rd_T45 l0 b0).f1) d0 _ ?side1 ?side2 A5.out).mono ?_
   (case side1=>exact cB d8 HB)
   (case side2=>exact e2.out)
   rintro e w8 ⟨l5,rfl,i6,hb⟩
   refine ⟨_,rfl,?_⟩
   have d9:=A_ (Kd.R_lower i6 (below_size (bl HB)))
   replace b9:=A_ (Kd.S_elder' (by (with_reducible repeat (first | apply Kd.S_alloc | apply Kd.S_drewN | apply Kd.S_drew));exact b9.out) (Kd.R_base i6) hb)
   replace HB:=bB HB hb
   (try clear hb)
   obtain ⟨i7,i8,i9⟩:=Kd.R_slice d9.out
   (first | subst i9 | (injection i9 with j5 l6 j7;have l7:=j5.symm;have l8:=j7.symm;clear j5 l6 j7;subst l7;subst l8))
   refine hK.out _ _ ⟨((HB.out.cell (World.block_lt_of_cell? w _ b2)).trans b2),((HB.out.cell (World.block_lt_of_cell? w _ b1)).trans b1),((HB.out.cell (World.block_lt_of_cell? w _ b4)).trans b4),((HB.out.cell (World.block_lt_of_cell? w _ b3)).trans b3)⟩ (fun hHeld=>?_)
   clear hK K
   refine nq 26 ?_
   refine pq 12 27 8191 HT_ ?_
   refine oq 13 28 16383 HT_ (fun K hK=>?_)
   refine value_ (w1:=?_) (v:=?_) (by rfl) rfl ?_ ?_
   rotate_left 2
   ·go_simp
    constructor
    ·rfl
    rfl
   refine hK.out _ _ ⟨(World.cell?_alloc_lt _ _ _ (World.block_lt_of_cell? _ _ (((HB.out.cell (World.block_lt_of_cell? w _ b2)).trans b2)))).trans (((HB.out.cell (World.block_lt_of_cell? w _ b2)).trans b2)),(World.cell?_alloc_lt _ _ _ (World.block_lt_of_cell? _ _ (((HB.out.cell (World.block_lt_of_cell? w _ b1)).trans b1)))).trans (((HB.out.cell (World.block_lt_of_cell? w _ b1)).trans b1)),(World.cell?_alloc_lt _ _ _ (World.block_lt_of_cell? _ _ (((HB.out.cell (World.block_lt_of_cell? w _ b4)).trans b4)))).trans (((HB.out.cell (World.block_lt_of_cell? w _ b4)).trans b4)),(World.cell?_alloc_lt _ _ _ (World.block_lt_of_cell? _ _ (((HB.out.cell (World.block_lt_of_cell? w _ b3)).trans b3)))).trans (((HB.out.cell (World.block_lt_of_cell? w _ b3)).trans b3))⟩ (fun hHeld=>?_)
   clear hK K
   refine nq 28 ?_
   refine oq 14 29 32767 HT_ (fun K hK=>?_)
   refine Kd.S_append_step k45 (w0:=w) w.heap.size (by rfl) (.tmp 15) (.tmp 28) 43 45 (.agg #[(.int .i64 0),(.slice none 0 0)]) 32 rfl Try.underlying43 info45 rfl (by decide) (by omega) u3 d1 (⟨(rd_T45 l0 b0).f0,d0⟩:S45) [.int .i64 ((rd_T45 l0 b0).f0),.slice i7 d0.length i8] (fun _=>True) (fun k_=>some k_ = (.slice i7 d0.length i8:Value).ownBlock) rfl rfl ?aP (fun k_ hk_=>((Kd.R_mono (ok':=fun k_=>((fun _=>True)) k_ ∧ some k_ ≠ (u3:Value).ownBlock) (Kd.R_apart' (d9.out) (Kd.S_typed b9.out) (by decide)) (fun k_ hk=>⟨trivial,hk.2⟩))).1 k_ hk_.symm) ?aF ?aO ?aB ?aS ?aL ?_
   (case aP=>exact k45_mkM _ _ _ (⟨(rd_T45 l0 b0).f0,d0⟩:S45) (Kd.R_mono (Kd.R_tight rfl (Kd.R_mono (ok':=fun k_=>((fun _=>True)) k_ ∧ some k_ ≠ (u3:Value).ownBlock) (Kd.R_apart' (d9.out) (Kd.S_typed b9.out) (by decide)) (fun k_ hk=>⟨trivial,hk.2⟩))) (fun _ h_=>h_)))
   (case aB=>exact (bl HB))
   (case aF=>exact (fun _ _=>trivial))
   (case aO=>exact (by (with_reducible repeat (first | apply Kd.S_alloc | apply Kd.S_drewN | apply Kd.S_drew));exact Kd.S_mono b9.out (fun k_ hk=>⟨trivial,fun e_=>hk.2 e_⟩)))
   (case aS=>exact (below_size (bl HB)))
   (case aL=>have:=h4.out;omega)
   intro l9 m1 ho hb hg hat
   rw [← e7.out] at ho
   have e9:=A_ ho
   replace HB:=A_ hb
   clear b9 d9 ho hb hg hat
   refine hK.out _ _ ⟨((HB.out.cell (World.block_lt_of_cell? w _ b2)).trans b2),((HB.out.cell (World.block_lt_of_cell? w _ b1)).trans b1),((HB.out.cell (World.block_lt_of_cell? w _ b4)).trans b4),((HB.out.cell (World.block_lt_of_cell? w _ b3)).trans b3)⟩ (fun hHeld=>?_)
   clear hK K
   refine nq 29 ?_
   refine pq 15 3 65535 HT_ ?_
   refine done_ (done_of HT_.out (by kernel_rfl)) ?_
   try go_wp2
   go_roundg k1
   case measure=>have:=i4.out;omega
   case rel=>exact ⟨(h5),(wrap64 (b0 + 1)),(by first | rfl | (simp;done) | (simp [*];done)),H',⟨by have:=i4.out;omega⟩,⟨by (with_reducible repeat (first | apply Kd.S_alloc | apply Kd.S_drewN | apply Kd.S_drew));exact e9.out⟩,⟨bl HB⟩⟩
end Go.Proofs.Ytjohcjfmlhihbaa.G
set_option linter.unusedSectionVars false
namespace Go.Proofs.Ytjohcjfmlhihbaa.P
open Go Go.RowKit Go.Proofs.Ytjohcjfmlhihbaa.G
open Go.Proofs.YtjohcjfmlhihbaaW.PrintWords Go.Proofs.YtjohcjfmlhihbaaW.PrintMore
theorem list_f (l:List Int):numnahlaw07_list.f l = some (l.take 11):=by
 unfold numnahlaw07_list.f
 rw [mn11,if_pos (by omega),if_pos (by omega),Int.toNat_natCast]
 simp only [Option.bind_some,List.nil_append,List.length_nil]
 rw [if_pos (by rw [List.length_take];omega)]
 congr 1
 by_cases h:l.length ≤ 11
 ·rw [List.take_of_length_le (by omega),List.take_of_length_le h]
 ·rw [show min l.length 11 = 11 by omega]
end Go.Proofs.Ytjohcjfmlhihbaa.P
set_option linter.unusedSectionVars false
namespace Go.Proofs.Ytjohcjfmlhihbaa.P
open Go Go.RowKit Go.Proofs.Ytjohcjfmlhihbaa.G
open Go.Proofs.YtjohcjfmlhihbaaW.PrintWords Go.Proofs.YtjohcjfmlhihbaaW.PrintMore
def rateS (a:S23):Prop:=1 ≤ a.f1 ∧ a.f1 ≤ 100 ∧ 0 ≤ a.f0 ∧ a.f0 ≤ 1000000 ∧ Nat.gcd a.f0.natAbs a.f1.toNat = 1
instance (a:S23):Decidable (rateS a):=by unfold rateS;exact inferInstance
def cutU (a:S45):S45:=⟨a.f0,a.f1.take 11⟩
theorem group_l0 (u0:List S45):∀ (d i:Nat),i + d = min u0.length 7 → Ev (fun k=>numnahlaw07_group.l0 k u0 ((u0.take i).map cutU) (i:Int)) ((u0.take 7).map cutU):=by
 intro d
 induction d with
 | zero =>
  intro i hi
  refine Ev.step (f:=fun _=>some ((u0.take 7).map cutU)) (fun k=>?_) (Ev.now _)
  rw [numnahlaw07_group.l0]
  by_cases h:(i:Int) < (u0.length:Int)
  ·rw [if_pos h,if_neg (by omega)]
   have:i = 7:=by omega
   rw [this]
  ·rw [if_neg h,List.take_of_length_le (by omega),List.take_of_length_le (by omega)]
 | succ d ih =>
  intro i hi
  have hil:i < u0.length:=by omega
  refine Ev.step (fun k=>?_) (ih (i + 1) (by omega))
  rw [numnahlaw07_group.l0,if_pos (by omega),if_pos (by omega),if_pos (by omega),list_f,rdT45 hil]
  simp only [Option.bind_some]
  rw [if_pos (by rw [List.length_map,List.length_take];omega),wrap_succ (by omega),List.take_succ_eq_append_getElem hil,List.map_append]
  rfl
theorem ev_group (u0:List S45):Ev (fun k=>numnahlaw07_group.f k u0) ((u0.take 7).map cutU):=group_l0 u0 (min u0.length 7) 0 (by omega)
theorem group_len (u0:List S45):((u0.take 7).map cutU).length ≤ 7 ∧ ∀ a ∈ (u0.take 7).map cutU,a.f1.length ≤ 1000000:=by
 refine ⟨by rw [List.length_map,List.length_take];omega,fun a ha=>?_⟩
 obtain ⟨b,_,rfl⟩:=List.mem_map.1 ha
 show (b.f1.take 11).length ≤ 1000000
 rw [List.length_take];omega
end Go.Proofs.Ytjohcjfmlhihbaa.P
set_option linter.unusedSectionVars false
namespace Go.Proofs.Ytjohcjfmlhihbaa.G
open Go.RowKit Go.Proofs.YtjohcjfmlhihbaaW.PrintWords Go.Proofs.YtjohcjfmlhihbaaW.PrintLast Go.Proofs.YtjohcjfmlhihbaaW.PrintMore
set_option maxHeartbeats 8000000
set_option maxRecDepth 100000
attribute [local go_sem] cond_true cond_false fld23_0 fld23_1 fld45_0 fld45_1 fld109_0 fld109_1 fld94_0 fld94_1 max2_int min2_int max_two min_two max_three min_three max_four min_four
mutual
def numnahlaw07_SharesFairs.j0:Nat → List Int → List (S45) → List Int → List Int → Int → List (S23) → Bool → Option (Bool)
 | 0,_,_,_,_,_,_,_=>none
 | k + 1,x5,x6,x8,o9,p0,p1,x76=>if x76 = true then (some false) else (numnahlaw07_SharesFairs.l0 k x5 x6 x8 o9 p0 p1 0)
def numnahlaw07_SharesFairs.l0:Nat → List Int → List (S45) → List Int → List Int → Int → List (S23) → Int → Option (Bool)
 | 0,_,_,_,_,_,_,_=>none
 | k + 1,x5,x6,x8,o9,p0,p1,l8=>if l8 < (x6.length:Int) then (if 0 ≤ l8 then (if l8 < (x8.length:Int) then ((numnahref07_Holder.f k x5 x6 p1 l8).bind fun e4=>(if (rd x8 l8) = e4 then (numnahlaw07_SharesFairs.l0 k x5 x6 x8 o9 p0 p1 (wrap64 (l8 + 1))) else (some false))) else (none)) else (none)) else ((numnahref07_Portions.f k x5 x6).bind fun h1=>((numnahlaw07_ints.f k o9 h1).bind fun h2=>(if h2 = true then (if p0 = 0 then ((numnahlaw07_awake.f k).bind fun e9=>(some e9)) else (some false)) else (some false))))
end
def numnahlaw07_SharesFairs.f (k:Nat) (l0:List Int) (l1:List (S45)):Option (Bool):=(numnahlaw07_list.f l0).bind fun b1=>((numnahlaw07_group.f k l1).bind fun b0=>((shares_Fair.f k b1 b0).bind fun b4=>((shares_Whole.f k b1 b0).bind fun b2=>((numnahref07_Users.f k b1 b0).bind fun e5=>(if e5 = true then ((numnahref07_Fair.f k b1 b0).bind fun b5=>((numnahref07_Same.f k b4.1 b5).bind fun d2=>(if d2 = true then (if (b4.2.1.length:Int) = (b0.length:Int) then (numnahlaw07_SharesFairs.j0 k b1 b0 b4.2.1 b2.1 b2.2 b5 (b4.2.2 != 0)) else (numnahlaw07_SharesFairs.j0 k b1 b0 b4.2.1 b2.1 b2.2 b5 true)) else (numnahlaw07_SharesFairs.j0 k b1 b0 b4.2.1 b2.1 b2.2 b5 true)))) else (if (b4.1.length:Int) = 0 then (if (b4.2.1.length:Int) = 0 then (if b4.2.2 = 2 then (if (b2.1.length:Int) = 0 then (if b2.2 = 2 then ((numnahlaw07_awake.f k).bind fun d9=>(some d9)) else (some false)) else (some false)) else (some false)) else (some false)) else (some false)))))))
theorem numnahlaw07_SharesFairs.mono_l:∀ k,(∀ y0 y1 y2 y3 y4 y5 y6,LeO (numnahlaw07_SharesFairs.j0 k y0 y1 y2 y3 y4 y5 y6) (numnahlaw07_SharesFairs.j0 (k + 1) y0 y1 y2 y3 y4 y5 y6)) ∧ (∀ y0 y1 y2 y3 y4 y5 y6,LeO (numnahlaw07_SharesFairs.l0 k y0 y1 y2 y3 y4 y5 y6) (numnahlaw07_SharesFairs.l0 (k + 1) y0 y1 y2 y3 y4 y5 y6))
 | 0=>⟨fun _ _ _ _ _ _ _ r h=>by simp [numnahlaw07_SharesFairs.j0] at h,fun _ _ _ _ _ _ _ r h=>by simp [numnahlaw07_SharesFairs.l0] at h⟩
 | k + 1=>by
  obtain ⟨p2,p3⟩:=numnahlaw07_SharesFairs.mono_l k
  refine ⟨?_,?_⟩
  ·intro y0 y1 y2 y3 y4 y5 y6
   unfold numnahlaw07_SharesFairs.j0
   repeat' first
   | (with_reducible first | exact p2 _ _ _ _ _ _ _ | exact p3 _ _ _ _ _ _ _ | exact numnahlaw07_awake.mono _ | exact numnahlaw07_group.mono _ _ | exact numnahlaw07_ints.mono _ _ _ | exact numnahref07_Fair.mono _ _ _ | exact numnahref07_Holder.mono _ _ _ _ _ | exact numnahref07_Portions.mono _ _ _ | exact numnahref07_Same.mono _ _ _ | exact numnahref07_Users.mono _ _ _ | exact shares_Fair.mono _ _ _ | exact shares_Whole.mono _ _ _ | exact LeO.refl _ | exact LeO.none _ | refine LeO.ite ?_ ?_ | refine LeO.bind ?_ (fun _=>?_))
   | exact LeO.none _ | refine LeO.ite ?_ ?_ | refine LeO.bind ?_ (fun _=>?_)
  intro y0 y1 y2 y3 y4 y5 y6
  unfold numnahlaw07_SharesFairs.l0
  repeat' first
  | (with_reducible first | exact p2 _ _ _ _ _ _ _ | exact p3 _ _ _ _ _ _ _ | exact numnahlaw07_awake.mono _ | exact numnahlaw07_group.mono _ _ | exact numnahlaw07_ints.mono _ _ _ | exact numnahref07_Fair.mono _ _ _ | exact numnahref07_Holder.mono _ _ _ _ _ | exact numnahref07_Portions.mono _ _ _ | exact numnahref07_Same.mono _ _ _ | exact numnahref07_Users.mono _ _ _ | exact shares_Fair.mono _ _ _ | exact shares_Whole.mono _ _ _ | exact LeO.refl _ | exact LeO.none _ | refine LeO.ite ?_ ?_ | refine LeO.bind ?_ (fun _=>?_))
  | exact LeO.none _ | refine LeO.ite ?_ ?_ | refine LeO.bind ?_ (fun _=>?_)
theorem numnahlaw07_SharesFairs.mono:∀ a0 a1 k,LeO (numnahlaw07_SharesFairs.f k a0 a1) (numnahlaw07_SharesFairs.f (k + 1) a0 a1):=by
 intro a0 a1 k
 obtain ⟨p2,p3⟩:=numnahlaw07_SharesFairs.mono_l k
 unfold numnahlaw07_SharesFairs.f
 repeat' first
   | (with_reducible first | exact p2 _ _ _ _ _ _ _ | exact p3 _ _ _ _ _ _ _ | exact numnahlaw07_awake.mono _ | exact numnahlaw07_group.mono _ _ | exact numnahlaw07_ints.mono _ _ _ | exact numnahref07_Fair.mono _ _ _ | exact numnahref07_Holder.mono _ _ _ _ _ | exact numnahref07_Portions.mono _ _ _ | exact numnahref07_Same.mono _ _ _ | exact numnahref07_Users.mono _ _ _ | exact shares_Fair.mono _ _ _ | exact shares_Whole.mono _ _ _ | exact LeO.refl _ | exact LeO.none _ | refine LeO.ite ?_ ?_ | refine LeO.bind ?_ (fun _=>?_))
   | exact LeO.none _ | refine LeO.ite ?_ ?_ | refine LeO.bind ?_ (fun _=>?_)
def numnahlaw07_SharesFairs.T12:Bool × List (List Nat × List Nat):=(true,[([],[]),([],[]),([0,1],[0,1]),([2],[2]),([],[]),([],[]),([],[]),([],[]),([4,5,6,7],[4,5,6,7]),([3,8],[3,8])])
def numnahlaw07_SharesFairs.B12:List Nat:=[0,0,3,7,0,0,0,0,240,511]
theorem numnahlaw07_SharesFairs.tab12:rtab .any (opsOf Try.f11 12) = numnahlaw07_SharesFairs.T12:=by kernel_rfl
theorem numnahlaw07_SharesFairs.bits12:waitsOk numnahlaw07_SharesFairs.T12.2 numnahlaw07_SharesFairs.B12 = true:=by kernel_rfl
theorem numnahlaw07_SharesFairs.calls (k:Nat) (A0:Option Addr) (c0:Nat) (l0:List Int) (A1:Option Addr) (c1:Nat) (l1:List (S45)) (r:Bool) (w:World) (x1:Kd.C (Kd.int .i64) w A0 l0.length l0) (x2:l0.length ≤ c0) (x3:Kd.C k45 w A1 l1.length l1) (x4:l1.length ≤ c1) (h:numnahlaw07_SharesFairs.f k l0 l1 = some r) (hrt_:r = true) :
  Calls Try.prog 11 #[.slice A0 l0.length c0,.slice A1 l1.length c1] w fun e w'=>e = .returned (.bool r) ∧ Below w.heap.size w w':=by
 have HRT:=Aside0.mk hrt_
 clear hrt_
 have x7:=A_ x1
 have x9:=A_ x2
 clear x1 x2
 have y7:=A_ x3
 have y8:=A_ x4
 clear x3 x4
 have HB:=A_ (Below.refl w.heap.size w)
 have H:((numnahlaw07_list.f l0).bind fun b1=>((numnahlaw07_group.f k l1).bind fun b0=>((shares_Fair.f k b1 b0).bind fun b4=>((shares_Whole.f k b1 b0).bind fun b2=>((numnahref07_Users.f k b1 b0).bind fun e5=>(if e5 = true then ((numnahref07_Fair.f k b1 b0).bind fun b5=>((numnahref07_Same.f k b4.1 b5).bind fun d2=>(if d2 = true then (if (b4.2.1.length:Int) = (b0.length:Int) then (numnahlaw07_SharesFairs.j0 k b1 b0 b4.2.1 b2.1 b2.2 b5 (b4.2.2 != 0)) else (numnahlaw07_SharesFairs.j0 k b1 b0 b4.2.1 b2.1 b2.2 b5 true)) else (numnahlaw07_SharesFairs.j0 k b1 b0 b4.2.1 b2.1 b2.2 b5 true)))) else (if (b4.1.length:Int) = 0 then (if (b4.2.1.length:Int) = 0 then (if b4.2.2 = 2 then (if (b2.1.length:Int) = 0 then (if b2.2 = 2 then ((numnahlaw07_awake.f k).bind fun d9=>(some d9)) else (some false)) else (some false)) else (some false)) else (some false)) else (some false)))))))) = some r:=h
 clear h
 replace H:=Option.bind_eq_some_iff.mp H
 obtain ⟨b1,y9,H⟩:=H
 replace H:((numnahlaw07_group.f k l1).bind fun b0=>((shares_Fair.f k b1 b0).bind fun b4=>((shares_Whole.f k b1 b0).bind fun b2=>((numnahref07_Users.f k b1 b0).bind fun e5=>(if e5 = true then ((numnahref07_Fair.f k b1 b0).bind fun b5=>((numnahref07_Same.f k b4.1 b5).bind fun d2=>(if d2 = true then (if (b4.2.1.length:Int) = (b0.length:Int) then (numnahlaw07_SharesFairs.j0 k b1 b0 b4.2.1 b2.1 b2.2 b5 (b4.2.2 != 0)) else (numnahlaw07_SharesFairs.j0 k b1 b0 b4.2.1 b2.1 b2.2 b5 true)) else (numnahlaw07_SharesFairs.j0 k b1 b0 b4.2.1 b2.1 b2.2 b5 true)))) else (if (b4.1.length:Int) = 0 then (if (b4.2.1.length:Int) = 0 then (if b4.2.2 = 2 then (if (b2.1.length:Int) = 0 then (if b2.2 = 2 then ((numnahlaw07_awake.f k).bind fun d9=>(some d9)) else (some false)) else (some false)) else (some false)) else (some false)) else (some false))))))) = some r:=H
 have A3:=A_ y9
 clear y9
 replace H:=Option.bind_eq_some_iff.mp H
 obtain ⟨b0,z0,H⟩:=H
 replace H:((shares_Fair.f k b1 b0).bind fun b4=>((shares_Whole.f k b1 b0).bind fun b2=>((numnahref07_Users.f k b1 b0).bind fun e5=>(if e5 = true then ((numnahref07_Fair.f k b1 b0).bind fun b5=>((numnahref07_Same.f k b4.1 b5).bind fun d2=>(if d2 = true then (if (b4.2.1.length:Int) = (b0.length:Int) then (numnahlaw07_SharesFairs.j0 k b1 b0 b4.2.1 b2.1 b2.2 b5 (b4.2.2 != 0)) else (numnahlaw07_SharesFairs.j0 k b1 b0 b4.2.1 b2.1 b2.2 b5 true)) else (numnahlaw07_SharesFairs.j0 k b1 b0 b4.2.1 b2.1 b2.2 b5 true)))) else (if (b4.1.length:Int) = 0 then (if (b4.2.1.length:Int) = 0 then (if b4.2.2 = 2 then (if (b2.1.length:Int) = 0 then (if b2.2 = 2 then ((numnahlaw07_awake.f k).bind fun d9=>(some d9)) else (some false)) else (some false)) else (some false)) else (some false)) else (some false)))))) = some r:=H
 have A4:=A_ z0
 clear z0
 replace H:=Option.bind_eq_some_iff.mp H
 obtain ⟨⟨d7,b6,e0⟩,A50,H⟩:=H
 replace H:((shares_Whole.f k b1 b0).bind fun b2=>((numnahref07_Users.f k b1 b0).bind fun e5=>(if e5 = true then ((numnahref07_Fair.f k b1 b0).bind fun b5=>((numnahref07_Same.f k d7 b5).bind fun d2=>(if d2 = true then (if (b6.length:Int) = (b0.length:Int) then (numnahlaw07_SharesFairs.j0 k b1 b0 b6 b2.1 b2.2 b5 (e0 != 0)) else (numnahlaw07_SharesFairs.j0 k b1 b0 b6 b2.1 b2.2 b5 true)) else (numnahlaw07_SharesFairs.j0 k b1 b0 b6 b2.1 b2.2 b5 true)))) else (if (d7.length:Int) = 0 then (if (b6.length:Int) = 0 then (if e0 = 2 then (if (b2.1.length:Int) = 0 then (if b2.2 = 2 then ((numnahlaw07_awake.f k).bind fun d9=>(some d9)) else (some false)) else (some false)) else (some false)) else (some false)) else (some false))))) = some r:=H
 have A5:=A_ A50
 clear A50
 replace H:=Option.bind_eq_some_iff.mp H
 obtain ⟨⟨d0,b8⟩,A60,H⟩:=H
 replace H:((numnahref07_Users.f k b1 b0).bind fun e5=>(if e5 = true then ((numnahref07_Fair.f k b1 b0).bind fun b5=>((numnahref07_Same.f k d7 b5).bind fun d2=>(if d2 = true then (if (b6.length:Int) = (b0.length:Int) then (numnahlaw07_SharesFairs.j0 k b1 b0 b6 d0 b8 b5 (e0 != 0)) else (numnahlaw07_SharesFairs.j0 k b1 b0 b6 d0 b8 b5 true)) else (numnahlaw07_SharesFairs.j0 k b1 b0 b6 d0 b8 b5 true)))) else (if (d7.length:Int) = 0 then (if (b6.length:Int) = 0 then (if e0 = 2 then (if (d0.length:Int) = 0 then (if b8 = 2 then ((numnahlaw07_awake.f k).bind fun d9=>(some d9)) else (some false)) else (some false)) else (some false)) else (some false)) else (some false)))) = some r:=H
 have A6:=A_ A60
 clear A60
 replace H:=Option.bind_eq_some_iff.mp H
 obtain ⟨e5,z1,H⟩:=H
 replace H:(if e5 = true then ((numnahref07_Fair.f k b1 b0).bind fun b5=>((numnahref07_Same.f k d7 b5).bind fun d2=>(if d2 = true then (if (b6.length:Int) = (b0.length:Int) then (numnahlaw07_SharesFairs.j0 k b1 b0 b6 d0 b8 b5 (e0 != 0)) else (numnahlaw07_SharesFairs.j0 k b1 b0 b6 d0 b8 b5 true)) else (numnahlaw07_SharesFairs.j0 k b1 b0 b6 d0 b8 b5 true)))) else (if (d7.length:Int) = 0 then (if (b6.length:Int) = 0 then (if e0 = 2 then (if (d0.length:Int) = 0 then (if b8 = 2 then ((numnahlaw07_awake.f k).bind fun d9=>(some d9)) else (some false)) else (some false)) else (some false)) else (some false)) else (some false))) = some r:=H
 have A7:=A_ z1
 clear z1
 by_cases c8:e5 = true
 case neg =>
  replace c8:=Bool.eq_false_iff.mpr c8
  subst c8
  rw [if_neg (show ¬ (false = true) by decide)] at H
  by_cases i3:(d7.length:Int) = 0
  case neg =>
   rw [if_neg i3] at H
   have m0:((d7.length:Int) == 0) = false:=beq_eq_false_iff_ne.mpr i3
   have m1:((d7.length:Int) != 0) = true:=bne_iff_ne.mpr i3
   have z2:¬ (d7 = []):=fun h_=>i3 (by rw [h_];rfl)
   exact absurd ((Option.some.inj H).trans HRT.out) (by decide)
  rw [if_pos i3] at H
  have m0:((d7.length:Int) == 0) = true:=beq_iff_eq.mpr i3
  have m1:((d7.length:Int) != 0) = false:=bne_eq_false_iff_eq.mpr i3
  clear i3
  by_cases i4:(b6.length:Int) = 0
  case neg =>
   rw [if_neg i4] at H
   have m2:((b6.length:Int) == 0) = false:=beq_eq_false_iff_ne.mpr i4
   have m3:((b6.length:Int) != 0) = true:=bne_iff_ne.mpr i4
   have z3:¬ (b6 = []):=fun h_=>i4 (by rw [h_];rfl)
   exact absurd ((Option.some.inj H).trans HRT.out) (by decide)
  rw [if_pos i4] at H
  have m2:((b6.length:Int) == 0) = true:=beq_iff_eq.mpr i4
  have m3:((b6.length:Int) != 0) = false:=bne_eq_false_iff_eq.mpr i4
  clear i4
  by_cases i6:e0 = 2
  case neg =>
   rw [if_neg i6] at H
   have m4:(e0 == 2) = false:=beq_eq_false_iff_ne.mpr i6
   have m5:(e0 != 2) = true:=bne_iff_ne.mpr i6
   exact absurd ((Option.some.inj H).trans HRT.out) (by decide)
  rw [if_pos i6] at H
  have m4:(e0 == 2) = true:=beq_iff_eq.mpr i6
  have m5:(e0 != 2) = false:=bne_eq_false_iff_eq.mpr i6
  clear i6
  by_cases i5:(d0.length:Int) = 0
  case neg =>
   rw [if_neg i5] at H
   have m6:((d0.length:Int) == 0) = false:=beq_eq_false_iff_ne.mpr i5
   have m7:((d0.length:Int) != 0) = true:=bne_iff_ne.mpr i5
   have z4:¬ (d0 = []):=fun h_=>i5 (by rw [h_];rfl)
   exact absurd ((Option.some.inj H).trans HRT.out) (by decide)
  rw [if_pos i5] at H
  have m6:((d0.length:Int) == 0) = true:=beq_iff_eq.mpr i5
  have m7:((d0.length:Int) != 0) = false:=bne_eq_false_iff_eq.mpr i5
  clear i5
  by_cases i7:b8 = 2
  case neg =>
   rw [if_neg i7] at H
   have m8:(b8 == 2) = false:=beq_eq_false_iff_ne.mpr i7
   have m9:(b8 != 2) = true:=bne_iff_ne.mpr i7
   exact absurd ((Option.some.inj H).trans HRT.out) (by decide)
  rw [if_pos i7] at H
  have m8:(b8 == 2) = true:=beq_iff_eq.mpr i7
  have m9:(b8 != 2) = false:=bne_eq_false_iff_eq.mpr i7
  clear i7
  replace H:=Option.bind_eq_some_iff.mp H
  obtain ⟨d9,n0,H⟩:=H
  replace H:(some d9) = some r:=H
  have C1:=A_ n0
  clear n0
  obtain rfl:=Option.some.inj H
  go_enter Try.func11,Try.ntmps11
  go_wp2_with (first | ((with_reducible refine gate_callee (f:=35) rfl ?_);refine gL (some 15) Try.func35 #[.slice A0 l0.length c0] ?_;(with_reducible refine (numnahlaw07_list.calls _ _ l0 b1 _ ?side1 ?side2 A3.out).mono ?_);(case side1=>exact kc_ x7.out);(case side2=>exact x9.out);rintro e E0 ⟨p7,rfl,e3,hb⟩;refine ⟨_,rfl,?_⟩;have b3:=A_ (Kd.R_lower e3 (below_size (bl HB)));replace HB:=bB HB hb;(try clear hb)) | ((with_reducible refine gate_callee (f:=39) rfl ?_);refine gL (some 17) Try.func39 #[.slice A1 l1.length c1] ?_;(with_reducible refine (numnahlaw07_group.calls k _ _ l1 b0 _ ?side1 ?side2 A4.out).mono ?_);(case side1=>exact cB y7 HB);(case side2=>exact y8.out);rintro e E1 ⟨p8,rfl,e3,hb⟩;refine ⟨_,rfl,?_⟩;have b7:=A_ (Kd.S_lower (Kd.S_new' e3 (Kd.R_lt (rs b3))) (below_size (bl HB)));replace b3:=rB b3 hb;replace HB:=bB HB hb;(try clear hb);obtain ⟨i8,i9,p9⟩:=Kd.R_slice b3.out;subst p9;obtain ⟨j5,j7,q0⟩:=Kd.S_slice b7.out;subst q0) | ((with_reducible refine gate_callee (f:=32) rfl ?_);refine gL (some 21) Try.func32 #[.slice i8 b1.length i9,.slice j5 b0.length j7] ?_;(with_reducible refine (shares_Fair.calls k _ _ b1 _ _ b0 d7 b6 e0 _ ?side1 ?side2 ?side3 ?side4 A5.out).mono ?_);(case side1=>repeat (first | exact (Kd.R_reads' b3.out).2.2 | (with_reducible refine Kd.C_alloc ?_ _) | (with_reducible refine Kd.C_drewN ?_ _) | (with_reducible refine Kd.C_drew ?_)));(case side2=>exact (Kd.R_reads' b3.out).2.1);(case side3=>repeat (first | exact (Kd.S_reads' b7.out).2.2 | (with_reducible refine Kd.C_alloc ?_ _) | (with_reducible refine Kd.C_drewN ?_ _) | (with_reducible refine Kd.C_drew ?_)));(case side4=>exact (Kd.S_reads' b7.out).2.1);rintro e E2 ⟨q1,h3,rfl,e3,j8,hb⟩;refine ⟨_,rfl,?_⟩;have b9:=A_ (Kd.R_lower e3 (below_size (bl HB)));have d3:=A_ (Kd.R_lower (Kd.R_new' j8 (Kd.R_lt (rs b3))) (below_size (bl HB)));replace b3:=A_ (Kd.R_elder' (rs b3) (Kd.R_base j8) hb);replace b7:=A_ (Kd.S_elder' (ks_ b7) (Kd.R_base j8) hb);replace HB:=bB HB hb;(try clear hb)) | ((with_reducible refine gate_callee (f:=44) rfl ?_);refine gL (some 28) Try.func44 #[.slice i8 b1.length i9,.slice j5 b0.length j7] ?_;(with_reducible refine (shares_Whole.calls k _ _ b1 _ _ b0 d0 b8 _ ?side1 ?side2 ?side3 ?side4 A6.out).mono ?_);(case side1=>repeat (first | exact (Kd.R_reads' b3.out).2.2 | (with_reducible refine Kd.C_alloc ?_ _) | (with_reducible refine Kd.C_drewN ?_ _) | (with_reducible refine Kd.C_drew ?_)));(case side2=>exact (Kd.R_reads' b3.out).2.1);(case side3=>repeat (first | exact (Kd.S_reads' b7.out).2.2 | (with_reducible refine Kd.C_alloc ?_ _) | (with_reducible refine Kd.C_drewN ?_ _) | (with_reducible refine Kd.C_drew ?_)));(case side4=>exact (Kd.S_reads' b7.out).2.1);rintro e E3 ⟨h4,rfl,e3,hb⟩;refine ⟨_,rfl,?_⟩;have e6:=A_ (Kd.R_lower (Kd.R_new' (Kd.R_new' e3 (Kd.R_lt (rs b3))) (Kd.R_lt (rs d3))) (below_size (bl HB)));replace b3:=A_ (Kd.R_elder' (rs b3) (Kd.R_base e3) hb);replace b7:=A_ (Kd.S_elder' (ks_ b7) (Kd.R_base e3) hb);replace b9:=rB b9 hb;replace d3:=A_ (Kd.R_elder' (rs d3) (Kd.R_base e3) hb);replace HB:=bB HB hb;(try clear hb)) | ((with_reducible refine gate_callee (f:=41) rfl ?_);refine gL (some 33) Try.func41 #[.slice i8 b1.length i9,.slice j5 b0.length j7] ?_;(with_reducible refine (numnahref07_Users.calls k _ _ b1 _ _ b0 false _ ?side1 ?side2 ?side3 ?side4 A7.out).mono ?_);(case side1=>repeat (first | exact (Kd.R_reads' b3.out).2.2 | (with_reducible refine Kd.C_alloc ?_ _) | (with_reducible refine Kd.C_drewN ?_ _) | (with_reducible refine Kd.C_drew ?_)));(case side2=>exact (Kd.R_reads' b3.out).2.1);(case side3=>repeat (first | exact (Kd.S_reads' b7.out).2.2 | (with_reducible refine Kd.C_alloc ?_ _) | (with_reducible refine Kd.C_drewN ?_ _) | (with_reducible refine Kd.C_drew ?_)));(case side4=>exact (Kd.S_reads' b7.out).2.1);rintro e w' ⟨rfl,⟨nd,rfl⟩⟩;refine ⟨_,rfl,?_⟩;obtain ⟨C2,C3,q2⟩:=Kd.R_slice b9.out;subst q2;obtain ⟨C4,C5,q3⟩:=Kd.R_slice d3.out;subst q3;obtain ⟨C6,C7,q4⟩:=Kd.R_slice e6.out;subst q4) | (go_at_call 22;(with_reducible refine (numnahlaw07_awake.calls k  d9 _ C1.out).mono ?_);rintro e E4 ⟨rfl,hb⟩;replace b3:=rB b3 hb;replace b7:=A_ (Kd.S_below (ks_ b7) hb);replace b9:=rB b9 hb;replace d3:=rB d3 hb;replace e6:=rB e6 hb;replace HB:=bB HB hb;(try clear hb)))
  go_ret
  exact ⟨by first | rfl | (simp [errW_none,errW_some] <;> rfl) | (simp [*,errW_none,errW_some] <;> rfl),bl HB⟩
 subst c8
 rw [if_pos rfl] at H
 replace H:=Option.bind_eq_some_iff.mp H
 obtain ⟨b5,z5,H⟩:=H
 replace H:((numnahref07_Same.f k d7 b5).bind fun d2=>(if d2 = true then (if (b6.length:Int) = (b0.length:Int) then (numnahlaw07_SharesFairs.j0 k b1 b0 b6 d0 b8 b5 (e0 != 0)) else (numnahlaw07_SharesFairs.j0 k b1 b0 b6 d0 b8 b5 true)) else (numnahlaw07_SharesFairs.j0 k b1 b0 b6 d0 b8 b5 true))) = some r:=H
 have A9:=A_ z5
 clear z5
 have j9:=A_ H
 clear H
 go_enter Try.func11,Try.ntmps11
 go_upto_region 7 with (first | ((with_reducible refine gate_callee (f:=35) rfl ?_);refine gL (some 15) Try.func35 #[.slice A0 l0.length c0] ?_;(with_reducible refine (numnahlaw07_list.calls _ _ l0 b1 _ ?side1 ?side2 A3.out).mono ?_);(case side1=>exact kc_ x7.out);(case side2=>exact x9.out);rintro e E5 ⟨p7,rfl,e3,hb⟩;refine ⟨_,rfl,?_⟩;have b3:=A_ (Kd.R_lower e3 (below_size (bl HB)));replace HB:=bB HB hb;(try clear hb)) | ((with_reducible refine gate_callee (f:=39) rfl ?_);refine gL (some 17) Try.func39 #[.slice A1 l1.length c1] ?_;(with_reducible refine (numnahlaw07_group.calls k _ _ l1 b0 _ ?side1 ?side2 A4.out).mono ?_);(case side1=>exact cB y7 HB);(case side2=>exact y8.out);rintro e E6 ⟨p8,rfl,e3,hb⟩;refine ⟨_,rfl,?_⟩;have b7:=A_ (Kd.S_lower (Kd.S_new' e3 (Kd.R_lt (rs b3))) (below_size (bl HB)));replace b3:=rB b3 hb;replace HB:=bB HB hb;(try clear hb);obtain ⟨e7,e8,q5⟩:=Kd.R_slice b3.out;subst q5;obtain ⟨h5,h6,q6⟩:=Kd.S_slice b7.out;subst q6) | ((with_reducible refine gate_callee (f:=32) rfl ?_);refine gL (some 21) Try.func32 #[.slice e7 b1.length e8,.slice h5 b0.length h6] ?_;(with_reducible refine (shares_Fair.calls k _ _ b1 _ _ b0 d7 b6 e0 _ ?side1 ?side2 ?side3 ?side4 A5.out).mono ?_);(case side1=>repeat (first | exact (Kd.R_reads' b3.out).2.2 | (with_reducible refine Kd.C_alloc ?_ _) | (with_reducible refine Kd.C_drewN ?_ _) | (with_reducible refine Kd.C_drew ?_)));(case side2=>exact (Kd.R_reads' b3.out).2.1);(case side3=>repeat (first | exact (Kd.S_reads' b7.out).2.2 | (with_reducible refine Kd.C_alloc ?_ _) | (with_reducible refine Kd.C_drewN ?_ _) | (with_reducible refine Kd.C_drew ?_)));(case side4=>exact (Kd.S_reads' b7.out).2.1);rintro e E7 ⟨q1,h3,rfl,e3,j8,hb⟩;refine ⟨_,rfl,?_⟩;have b9:=A_ (Kd.R_lower e3 (below_size (bl HB)));have d3:=A_ (Kd.R_lower (Kd.R_new' j8 (Kd.R_lt (rs b3))) (below_size (bl HB)));replace b3:=A_ (Kd.R_elder' (rs b3) (Kd.R_base j8) hb);replace b7:=A_ (Kd.S_elder' (ks_ b7) (Kd.R_base j8) hb);replace HB:=bB HB hb;(try clear hb)) | ((with_reducible refine gate_callee (f:=44) rfl ?_);refine gL (some 28) Try.func44 #[.slice e7 b1.length e8,.slice h5 b0.length h6] ?_;(with_reducible refine (shares_Whole.calls k _ _ b1 _ _ b0 d0 b8 _ ?side1 ?side2 ?side3 ?side4 A6.out).mono ?_);(case side1=>repeat (first | exact (Kd.R_reads' b3.out).2.2 | (with_reducible refine Kd.C_alloc ?_ _) | (with_reducible refine Kd.C_drewN ?_ _) | (with_reducible refine Kd.C_drew ?_)));(case side2=>exact (Kd.R_reads' b3.out).2.1);(case side3=>repeat (first | exact (Kd.S_reads' b7.out).2.2 | (with_reducible refine Kd.C_alloc ?_ _) | (with_reducible refine Kd.C_drewN ?_ _) | (with_reducible refine Kd.C_drew ?_)));(case side4=>exact (Kd.S_reads' b7.out).2.1);rintro e E8 ⟨h4,rfl,e3,hb⟩;refine ⟨_,rfl,?_⟩;have e6:=A_ (Kd.R_lower (Kd.R_new' (Kd.R_new' e3 (Kd.R_lt (rs b3))) (Kd.R_lt (rs d3))) (below_size (bl HB)));replace b3:=A_ (Kd.R_elder' (rs b3) (Kd.R_base e3) hb);replace b7:=A_ (Kd.S_elder' (ks_ b7) (Kd.R_base e3) hb);replace b9:=rB b9 hb;replace d3:=A_ (Kd.R_elder' (rs d3) (Kd.R_base e3) hb);replace HB:=bB HB hb;(try clear hb)) | ((with_reducible refine gate_callee (f:=41) rfl ?_);refine gL (some 33) Try.func41 #[.slice e7 b1.length e8,.slice h5 b0.length h6] ?_;(with_reducible refine (numnahref07_Users.calls k _ _ b1 _ _ b0 true _ ?side1 ?side2 ?side3 ?side4 A7.out).mono ?_);(case side1=>repeat (first | exact (Kd.R_reads' b3.out).2.2 | (with_reducible refine Kd.C_alloc ?_ _) | (with_reducible refine Kd.C_drewN ?_ _) | (with_reducible refine Kd.C_drew ?_)));(case side2=>exact (Kd.R_reads' b3.out).2.1);(case side3=>repeat (first | exact (Kd.S_reads' b7.out).2.2 | (with_reducible refine Kd.C_alloc ?_ _) | (with_reducible refine Kd.C_drewN ?_ _) | (with_reducible refine Kd.C_drew ?_)));(case side4=>exact (Kd.S_reads' b7.out).2.1);rintro e w' ⟨rfl,⟨nd,rfl⟩⟩;refine ⟨_,rfl,?_⟩) | ((with_reducible refine gate_callee (f:=42) rfl ?_);refine gL (some 61) Try.func42 #[.slice e7 b1.length e8,.slice h5 b0.length h6] ?_;(with_reducible refine (numnahref07_Fair.calls k _ _ b1 _ _ b0 b5 _ ?side1 ?side2 ?side3 ?side4 A9.out).mono ?_);(case side1=>repeat (first | exact (Kd.R_reads' b3.out).2.2 | (with_reducible refine Kd.C_alloc ?_ _) | (with_reducible refine Kd.C_drewN ?_ _) | (with_reducible refine Kd.C_drew ?_)));(case side2=>exact (Kd.R_reads' b3.out).2.1);(case side3=>repeat (first | exact (Kd.S_reads' b7.out).2.2 | (with_reducible refine Kd.C_alloc ?_ _) | (with_reducible refine Kd.C_drewN ?_ _) | (with_reducible refine Kd.C_drew ?_)));(case side4=>exact (Kd.S_reads' b7.out).2.1);rintro e E9 ⟨n1,rfl,e3,hb⟩;refine ⟨_,rfl,?_⟩;have d4:=A_ (Kd.R_lower (Kd.R_new' e3 (Kd.R_lt (rs b9))) (below_size (bl HB)));replace b3:=rB b3 hb;replace b7:=A_ (Kd.S_below (ks_ b7) hb);replace b9:=A_ (Kd.R_elder' (rs b9) (Kd.R_base e3) hb);replace d3:=rB d3 hb;replace e6:=rB e6 hb;replace HB:=bB HB hb;(try clear hb)))
 (try simp only [Act.put,List.setIfInBounds_toArray,List.set_cons_zero,List.set_cons_succ])
 go_cut [76] (fun C8 wc=>∃ (kq:Nat) (h9:Bool),C8 = .bool h9 ∧ Aside0 (numnahlaw07_SharesFairs.j0 kq b1 b0 b6 d0 b8 b5 h9 = some r) ∧ Aside0 (kq ≤ k) ∧ Aside0 (Kd.R (Kd.int .i64) 3 wc w.heap.size (fun k_=>some k_ ≠ (h3:Value).ownBlock ∧ some k_ ≠ (h4:Value).ownBlock) (.slice e7 b1.length e8) b1) ∧ Aside0 (Kd.S k45 45 wc w.heap.size (fun k_=>some k_ ≠ ((.slice e7 b1.length e8):Value).ownBlock ∧ some k_ ≠ (h3:Value).ownBlock ∧ some k_ ≠ (h4:Value).ownBlock) (.slice h5 b0.length h6) b0) ∧ Aside0 (Kd.R (Kd.int .i64) 3 wc w.heap.size (fun k_=>some k_ ≠ ((.slice e7 b1.length e8):Value).ownBlock ∧ some k_ ≠ (h4:Value).ownBlock) h3 b6) ∧ Aside0 (Kd.R (Kd.int .i64) 3 wc w.heap.size (fun k_=>some k_ ≠ ((.slice e7 b1.length e8):Value).ownBlock ∧ some k_ ≠ (h3:Value).ownBlock) h4 d0) ∧ Aside0 (Kd.R k23 23 wc w.heap.size (fun _=>True) n1 b5) ∧ Aside0 (Below w.heap.size w wc))
 case first =>
  have H:=j9.out
  clear j9
  replace H:=Option.bind_eq_some_iff.mp H
  obtain ⟨d2,n2,H⟩:=H
  replace H:(if d2 = true then (if (b6.length:Int) = (b0.length:Int) then (numnahlaw07_SharesFairs.j0 k b1 b0 b6 d0 b8 b5 (e0 != 0)) else (numnahlaw07_SharesFairs.j0 k b1 b0 b6 d0 b8 b5 true)) else (numnahlaw07_SharesFairs.j0 k b1 b0 b6 d0 b8 b5 true)) = some r:=H
  have q7:=A_ n2
  clear n2
  by_cases p4:d2 = true
  case neg =>
   replace p4:=Bool.eq_false_iff.mpr p4
   subst p4
   rw [if_neg (show ¬ (false = true) by decide)] at H
   have H':=A_ H
   clear H
   obtain ⟨q8,q9,r0⟩:=Kd.R_slice b9.out
   subst r0
   obtain ⟨r1,r2,r3⟩:=Kd.R_slice d4.out
   subst r3
   go_wp2_with (first | ((with_reducible refine gate_callee (f:=33) rfl ?_);refine gL (some 64) Try.func33 #[.slice q8 d7.length q9,.slice r1 b5.length r2] ?_;(with_reducible refine (numnahref07_Same.calls k _ _ d7 _ _ b5 false _ ?side1 ?side2 ?side3 ?side4 q7.out).mono ?_);(case side1=>repeat (first | exact (Kd.R_reads' b9.out).2.2 | (with_reducible refine Kd.C_alloc ?_ _) | (with_reducible refine Kd.C_drewN ?_ _) | (with_reducible refine Kd.C_drew ?_)));(case side2=>exact (Kd.R_reads' b9.out).2.1);(case side3=>repeat (first | exact (Kd.R_reads' d4.out).2.2 | (with_reducible refine Kd.C_alloc ?_ _) | (with_reducible refine Kd.C_drewN ?_ _) | (with_reducible refine Kd.C_drew ?_)));(case side4=>exact (Kd.R_reads' d4.out).2.1);rintro e w' ⟨rfl,⟨nd,rfl⟩⟩;refine ⟨_,rfl,?_⟩))
   go_meet
   case rel=>exact ⟨_,(true),rf_,H',⟨by first | omega | exact Nat.le_refl _⟩,⟨by (with_reducible repeat (first | apply Kd.R_alloc | apply Kd.R_drewN | apply Kd.R_drew));exact Kd.R_mono b3.out (fun _ hk=>⟨hk.1.2,hk.2⟩)⟩,⟨by (with_reducible repeat (first | apply Kd.S_alloc | apply Kd.S_drewN | apply Kd.S_drew));exact Kd.S_mono b7.out (fun _ hk=>⟨hk.1.1.2,⟨hk.1.2,hk.2⟩⟩)⟩,⟨by (with_reducible repeat (first | apply Kd.R_alloc | apply Kd.R_drewN | apply Kd.R_drew));exact Kd.R_mono d3.out (fun _ hk=>⟨hk.1.2,hk.2⟩)⟩,⟨by (with_reducible repeat (first | apply Kd.R_alloc | apply Kd.R_drewN | apply Kd.R_drew));exact Kd.R_mono e6.out (fun _ hk=>⟨hk.1.2,hk.2⟩)⟩,⟨by (with_reducible repeat (first | apply Kd.R_alloc | apply Kd.R_drewN | apply Kd.R_drew));exact Kd.R_mono d4.out (fun _ hk=>trivial)⟩,⟨bl HB⟩⟩
  subst p4
  rw [if_pos rfl] at H
  by_cases i0:(b6.length:Int) = (b0.length:Int)
  case neg =>
   rw [if_neg i0] at H
   have h7:((b6.length:Int) == (b0.length:Int)) = false:=beq_eq_false_iff_ne.mpr i0
   have n3:((b6.length:Int) != (b0.length:Int)) = true:=bne_iff_ne.mpr i0
   have n4:(b6.length == b0.length) = false:=by first | simpa using i0 | (simp at i0 ⊢;omega)
   (first | rw [h7] | (simp only [i64_w,i32_w];rw [h7]) | skip)
   have H':=A_ H
   clear H
   obtain ⟨r4,r5,r6⟩:=Kd.R_slice b9.out
   subst r6
   obtain ⟨r7,r8,r9⟩:=Kd.R_slice d4.out
   subst r9
   go_wp2_with (first | ((with_reducible refine gate_callee (f:=33) rfl ?_);refine gL (some 64) Try.func33 #[.slice r4 d7.length r5,.slice r7 b5.length r8] ?_;(with_reducible refine (numnahref07_Same.calls k _ _ d7 _ _ b5 true _ ?side1 ?side2 ?side3 ?side4 q7.out).mono ?_);(case side1=>repeat (first | exact (Kd.R_reads' b9.out).2.2 | (with_reducible refine Kd.C_alloc ?_ _) | (with_reducible refine Kd.C_drewN ?_ _) | (with_reducible refine Kd.C_drew ?_)));(case side2=>exact (Kd.R_reads' b9.out).2.1);(case side3=>repeat (first | exact (Kd.R_reads' d4.out).2.2 | (with_reducible refine Kd.C_alloc ?_ _) | (with_reducible refine Kd.C_drewN ?_ _) | (with_reducible refine Kd.C_drew ?_)));(case side4=>exact (Kd.R_reads' d4.out).2.1);rintro e w' ⟨rfl,⟨nd,rfl⟩⟩;refine ⟨_,rfl,?_⟩;obtain ⟨C9,D0,s1⟩:=Kd.R_slice d3.out;subst s1))
   go_meet
   case rel=>exact ⟨_,(true),rf_,H',⟨by first | omega | exact Nat.le_refl _⟩,⟨by (with_reducible repeat (first | apply Kd.R_alloc | apply Kd.R_drewN | apply Kd.R_drew));exact Kd.R_mono b3.out (fun _ hk=>⟨hk.1.2,hk.2⟩)⟩,⟨by (with_reducible repeat (first | apply Kd.S_alloc | apply Kd.S_drewN | apply Kd.S_drew));exact Kd.S_mono b7.out (fun _ hk=>⟨hk.1.1.2,⟨hk.1.2,hk.2⟩⟩)⟩,⟨by (with_reducible repeat (first | apply Kd.R_alloc | apply Kd.R_drewN | apply Kd.R_drew));exact Kd.R_mono d3.out (fun _ hk=>⟨hk.1.2,hk.2⟩)⟩,⟨by (with_reducible repeat (first | apply Kd.R_alloc | apply Kd.R_drewN | apply Kd.R_drew));exact Kd.R_mono e6.out (fun _ hk=>⟨hk.1.2,hk.2⟩)⟩,⟨by (with_reducible repeat (first | apply Kd.R_alloc | apply Kd.R_drewN | apply Kd.R_drew));exact Kd.R_mono d4.out (fun _ hk=>trivial)⟩,⟨bl HB⟩⟩
  rw [if_pos i0] at H
  have h7:((b6.length:Int) == (b0.length:Int)) = true:=beq_iff_eq.mpr i0
  have n3:((b6.length:Int) != (b0.length:Int)) = false:=bne_eq_false_iff_eq.mpr i0
  have n4:(b6.length == b0.length) = true:=by first | simpa using i0 | (simp at i0 ⊢;omega)
  clear i0
  (first | rw [h7] | (simp only [i64_w,i32_w];rw [h7]) | skip)
  have H':=A_ H
  clear H
  obtain ⟨s2,s3,s4⟩:=Kd.R_slice b9.out
  subst s4
  obtain ⟨s5,s6,s7⟩:=Kd.R_slice d4.out
  subst s7
  go_wp2_with (first | ((with_reducible refine gate_callee (f:=33) rfl ?_);refine gL (some 64) Try.func33 #[.slice s2 d7.length s3,.slice s5 b5.length s6] ?_;(with_reducible refine (numnahref07_Same.calls k _ _ d7 _ _ b5 true _ ?side1 ?side2 ?side3 ?side4 q7.out).mono ?_);(case side1=>repeat (first | exact (Kd.R_reads' b9.out).2.2 | (with_reducible refine Kd.C_alloc ?_ _) | (with_reducible refine Kd.C_drewN ?_ _) | (with_reducible refine Kd.C_drew ?_)));(case side2=>exact (Kd.R_reads' b9.out).2.1);(case side3=>repeat (first | exact (Kd.R_reads' d4.out).2.2 | (with_reducible refine Kd.C_alloc ?_ _) | (with_reducible refine Kd.C_drewN ?_ _) | (with_reducible refine Kd.C_drew ?_)));(case side4=>exact (Kd.R_reads' d4.out).2.1);rintro e w' ⟨rfl,⟨nd,rfl⟩⟩;refine ⟨_,rfl,?_⟩;obtain ⟨D1,D2,s8⟩:=Kd.R_slice d3.out;subst s8))
  go_meet
  case rel=>exact ⟨_,((e0 != 0)),rf_,H',⟨by first | omega | exact Nat.le_refl _⟩,⟨by (with_reducible repeat (first | apply Kd.R_alloc | apply Kd.R_drewN | apply Kd.R_drew));exact Kd.R_mono b3.out (fun _ hk=>⟨hk.1.2,hk.2⟩)⟩,⟨by (with_reducible repeat (first | apply Kd.S_alloc | apply Kd.S_drewN | apply Kd.S_drew));exact Kd.S_mono b7.out (fun _ hk=>⟨hk.1.1.2,⟨hk.1.2,hk.2⟩⟩)⟩,⟨by (with_reducible repeat (first | apply Kd.R_alloc | apply Kd.R_drewN | apply Kd.R_drew));exact Kd.R_mono d3.out (fun _ hk=>⟨hk.1.2,hk.2⟩)⟩,⟨by (with_reducible repeat (first | apply Kd.R_alloc | apply Kd.R_drewN | apply Kd.R_drew));exact Kd.R_mono e6.out (fun _ hk=>⟨hk.1.2,hk.2⟩)⟩,⟨by (with_reducible repeat (first | apply Kd.R_alloc | apply Kd.R_drewN | apply Kd.R_drew));exact Kd.R_mono d4.out (fun _ hk=>trivial)⟩,⟨bl HB⟩⟩
 case rest =>
  clear j9
  obtain ⟨kq,h9,rfl,HA,z6,d8,e1,e2,d5,d6,HB⟩:=hcut
  cases kq with
  | zero=>exact absurd HA.out (by simp [numnahlaw07_SharesFairs.j0])
  | succ z7 =>
   have H:=HA.out
   clear HA
   simp only [numnahlaw07_SharesFairs.j0] at H
   by_cases p5:h9 = true
   ·subst p5
    rw [if_pos rfl] at H
    exact absurd ((Option.some.inj H).trans HRT.out) (by decide)
   replace p5:=Bool.eq_false_iff.mpr p5
   subst p5
   rw [if_neg (show ¬ (false = true) by decide)] at H
   have H':=A_ H
   clear H
   go_wp2
   go_loopg [13] z7 (fun kq D3 w'=>∃ (d1:Int),D3 = .int .i64 d1 ∧ Aside0 (numnahlaw07_SharesFairs.l0 kq b1 b0 b6 d0 b8 b5 d1 = some r) ∧ Aside0 (kq ≤ z7) ∧ Aside0 (Kd.R (Kd.int .i64) 3 w' w.heap.size (fun k_=>some k_ ≠ (h3:Value).ownBlock ∧ some k_ ≠ (h4:Value).ownBlock) (.slice e7 b1.length e8) b1) ∧ Aside0 (Kd.S k45 45 w' w.heap.size (fun k_=>some k_ ≠ ((.slice e7 b1.length e8):Value).ownBlock ∧ some k_ ≠ (h3:Value).ownBlock ∧ some k_ ≠ (h4:Value).ownBlock) (.slice h5 b0.length h6) b0) ∧ Aside0 (Kd.R (Kd.int .i64) 3 w' w.heap.size (fun k_=>some k_ ≠ ((.slice e7 b1.length e8):Value).ownBlock ∧ some k_ ≠ (h4:Value).ownBlock) h3 b6) ∧ Aside0 (Kd.R (Kd.int .i64) 3 w' w.heap.size (fun k_=>some k_ ≠ ((.slice e7 b1.length e8):Value).ownBlock ∧ some k_ ≠ (h3:Value).ownBlock) h4 d0) ∧ Aside0 (Kd.R k23 23 w' w.heap.size (fun _=>True) n1 b5) ∧ Aside0 (Below w.heap.size w w'))
   case atStart=>exact ⟨(0),rf_,H',⟨Nat.le_refl _⟩,⟨kr_ d8⟩,⟨ks_ e1⟩,⟨kr_ e2⟩,⟨kr_ d5⟩,⟨kr_ d6⟩,⟨bl HB⟩⟩
   case round =>
    clear H'
    obtain ⟨d1,rfl,HA,z8,d8,e1,e2,d5,d6,HB⟩:=hrel
    cases gk with
    | zero=>exact absurd HA.out (by simp [numnahlaw07_SharesFairs.l0])
    | succ k2 =>
     have H:=HA.out
     clear HA
     simp only [numnahlaw07_SharesFairs.l0] at H
     by_cases l9:d1 < (b0.length:Int)
     case neg =>
      rw [if_neg l9] at H
      have n5:=decide_eq_false l9
      clear l9
      replace H:=Option.bind_eq_some_iff.mp H
      obtain ⟨h1,n6,H⟩:=H
      replace H:((numnahlaw07_ints.f k2 d0 h1).bind fun h2=>(if h2 = true then (if b8 = 0 then ((numnahlaw07_awake.f k2).bind fun e9=>(some e9)) else (some false)) else (some false))) = some r:=H
      have D4:=A_ n6
      clear n6
      replace H:=Option.bind_eq_some_iff.mp H
      obtain ⟨h2,n7,H⟩:=H
      replace H:(if h2 = true then (if b8 = 0 then ((numnahlaw07_awake.f k2).bind fun e9=>(some e9)) else (some false)) else (some false)) = some r:=H
      have D5:=A_ n7
      clear n7
      by_cases p6:h2 = true
      case neg =>
       replace p6:=Bool.eq_false_iff.mpr p6
       subst p6
       rw [if_neg (show ¬ (false = true) by decide)] at H
       exact absurd ((Option.some.inj H).trans HRT.out) (by decide)
      subst p6
      rw [if_pos rfl] at H
      by_cases l5:b8 = 0
      case neg =>
       rw [if_neg l5] at H
       have n8:(b8 == 0) = false:=beq_eq_false_iff_ne.mpr l5
       have n9:(b8 != 0) = true:=bne_iff_ne.mpr l5
       exact absurd ((Option.some.inj H).trans HRT.out) (by decide)
      rw [if_pos l5] at H
      have n8:(b8 == 0) = true:=beq_iff_eq.mpr l5
      have n9:(b8 != 0) = false:=bne_eq_false_iff_eq.mpr l5
      clear l5
      replace H:=Option.bind_eq_some_iff.mp H
      obtain ⟨e9,o0,H⟩:=H
      replace H:(some e9) = some r:=H
      have D6:=A_ o0
      clear o0
      obtain rfl:=Option.some.inj H
      go_wp2_with (first | ((with_reducible refine gate_callee (f:=47) rfl ?_);refine gL (some 96) Try.func47 #[.slice e7 b1.length e8,.slice h5 b0.length h6] ?_;(with_reducible refine (numnahref07_Portions.calls k2 _ _ b1 _ _ b0 h1 _ ?side1 ?side2 ?side3 ?side4 D4.out).mono ?_);(case side1=>repeat (first | exact (Kd.R_reads' d8.out).2.2 | (with_reducible refine Kd.C_alloc ?_ _) | (with_reducible refine Kd.C_drewN ?_ _) | (with_reducible refine Kd.C_drew ?_)));(case side2=>exact (Kd.R_reads' d8.out).2.1);(case side3=>repeat (first | exact (Kd.S_reads' e1.out).2.2 | (with_reducible refine Kd.C_alloc ?_ _) | (with_reducible refine Kd.C_drewN ?_ _) | (with_reducible refine Kd.C_drew ?_)));(case side4=>exact (Kd.S_reads' e1.out).2.1);rintro e F0 ⟨z9,rfl,e3,hb⟩;refine ⟨_,rfl,?_⟩;have h0:=A_ (Kd.R_lower (Kd.R_new' (Kd.R_new' (Kd.R_new' e3 (Kd.R_lt (rs d8))) (Kd.R_lt (rs e2))) (Kd.R_lt (rs d5))) (below_size (bl HB)));replace d8:=A_ (Kd.R_elder' (rs d8) (Kd.R_base e3) hb);replace e1:=A_ (Kd.S_elder' (ks_ e1) (Kd.R_base e3) hb);replace e2:=A_ (Kd.R_elder' (rs e2) (Kd.R_base e3) hb);replace d5:=A_ (Kd.R_elder' (rs d5) (Kd.R_base e3) hb);replace d6:=rB d6 hb;replace HB:=bB HB hb;(try clear hb);obtain ⟨s9,t0,t1⟩:=Kd.R_slice d5.out;subst t1;obtain ⟨t2,t3,t4⟩:=Kd.R_slice h0.out;subst t4) | ((with_reducible refine gate_callee (f:=46) rfl ?_);refine gL (some 97) Try.func46 #[.slice s9 d0.length t0,.slice t2 h1.length t3] ?_;(with_reducible refine (numnahlaw07_ints.calls k2 _ _ d0 _ _ h1 true _ ?side1 ?side2 ?side3 ?side4 D5.out).mono ?_);(case side1=>repeat (first | exact (Kd.R_reads' d5.out).2.2 | (with_reducible refine Kd.C_alloc ?_ _) | (with_reducible refine Kd.C_drewN ?_ _) | (with_reducible refine Kd.C_drew ?_)));(case side2=>exact (Kd.R_reads' d5.out).2.1);(case side3=>repeat (first | exact (Kd.R_reads' h0.out).2.2 | (with_reducible refine Kd.C_alloc ?_ _) | (with_reducible refine Kd.C_drewN ?_ _) | (with_reducible refine Kd.C_drew ?_)));(case side4=>exact (Kd.R_reads' h0.out).2.1);rintro e w' ⟨rfl,⟨nd,rfl⟩⟩;refine ⟨_,rfl,?_⟩) | (go_at_call 22;(with_reducible refine (numnahlaw07_awake.calls k2  e9 _ D6.out).mono ?_);rintro e F1 ⟨rfl,hb⟩;replace d8:=rB d8 hb;replace e1:=A_ (Kd.S_below (ks_ e1) hb);replace e2:=rB e2 hb;replace d5:=rB d5 hb;replace d6:=rB d6 hb;replace h0:=rB h0 hb;replace HB:=bB HB hb;(try clear hb)))
      go_ret
      exact ⟨by first | rfl | (simp [errW_none,errW_some] <;> rfl) | (simp [*,errW_none,errW_some] <;> rfl),bl HB⟩
     rw [if_pos l9] at H
     have n5:=decide_eq_true l9
     clear l9
     replace H:=gd H
     obtain ⟨A2,H⟩:=H
     have A8:=decide_eq_true A2
     clear A2
     replace H:=gd H
     obtain ⟨B0,H⟩:=H
     have C0:=decide_eq_true B0
     clear B0
     replace H:=Option.bind_eq_some_iff.mp H
     obtain ⟨e4,o1,H⟩:=H
     replace H:(if (rd b6 d1) = e4 then (numnahlaw07_SharesFairs.l0 k2 b1 b0 b6 d0 b8 b5 (wrap64 (d1 + 1))) else (some false)) = some r:=H
     have D7:=A_ o1
     clear o1
     by_cases l6:(rd b6 d1) = e4
     case neg =>
      rw [if_neg l6] at H
      have o2:((rd b6 d1) == e4) = false:=beq_eq_false_iff_ne.mpr l6
      have o3:((rd b6 d1) != e4) = true:=bne_iff_ne.mpr l6
      exact absurd ((Option.some.inj H).trans HRT.out) (by decide)
     rw [if_pos l6] at H
     have o2:((rd b6 d1) == e4) = true:=beq_iff_eq.mpr l6
     have o3:((rd b6 d1) != e4) = false:=bne_eq_false_iff_eq.mpr l6
     clear l6
     have H':=A_ H
     clear H
     try go_wp2
     replace d8:=rD d8
     replace e1:=A_ (Kd.S_drew e1.out)
     replace e2:=rD e2
     replace d5:=rD d5
     replace d6:=rD d6
     replace HB:=bD HB
     obtain ⟨D8,D9,o4⟩:=Kd.R_slice e2.out
     (first | subst o4 | (injection o4 with o5 t5 o6;have t6:=o5.symm;have t7:=o6.symm;clear o5 t5 o6;subst t6;subst t7))
     have i1:0 ≤ (d1:Int):=oa_
     have i2:d1 < (b6.length:Int):=oa_
     obtain ⟨l7,o7,h8⟩:=Kd.at_int (Kd.R_reads' e2.out).2.2 d1 i1 i2
     cases o7
     replace i1:=eq_true i1
     replace i2:=eq_true i2
     obtain ⟨t8,t9,o8⟩:=Kd.R_slice d6.out
     (first | subst o8 | (injection o8 with o5 t5 o6;have t6:=o5.symm;have t7:=o6.symm;clear o5 t5 o6;subst t6;subst t7))
     refine start_ (n:=10) (S:=fun w'=>w'.cell? (l7.add (d1).toNat) = some (.int .i64 (rd b6 d1))) (ds:=[]) (ba 10 0) (by kernel_rfl) rfl rfl (h8) (fun hHeld=>?_);refine with_tabW numnahlaw07_SharesFairs.tab12 numnahlaw07_SharesFairs.bits12 (fun HT_ HW_=>?_)
     generalize wr.drew = F2 at d8 e1 e2 d5 d6 HB h8 hHeld ⊢
     refine pq 0 83 1 HT_ ?_
     refine pq 1 84 3 HT_ ?_
     refine pq 2 85 7 HT_ ?_
     refine pq 4 87 23 HT_ ?_
     refine pq 5 88 55 HT_ ?_
     refine pq 6 89 119 HT_ ?_
     refine pq 7 90 247 HT_ ?_
     refine take_ (i:=3) (N:=some 86) (v:=?_) (a':=?_) (ba 10 255) rfl rfl (take_ofW HT_.out HW_.out (by kernel_rfl)) (fun _ _ _ h=>h) (Or.inl ⟨by rfl,?_⟩) hHeld ?_ ?_
     rotate_left
     ·intro w' s0
      go_simp
      with_reducible rfl
     rotate_left
     ·simp only [pu0,la,lb,lc,i64_w,i32_w]
      rfl
     refine oq 8 91 511 HT_ (fun K hK=>?_)
     refine gq Try.func45 #[.slice e7 b1.length e8,.slice h5 b0.length h6,.slice t8 b5.length t9,.int .i64 d1] ?_
     with_reducible refine (numnahref07_Holder.calls k2 _ _ b1 _ _ b0 _ _ b5 d1 e4 _ ?side1 ?side2 ?side3 ?side4 ?side5 ?side6 D7.out).mono ?_
     (case side1=>repeat (first | exact (Kd.R_reads' d8.out).2.2 | (with_reducible refine Kd.C_alloc ?_ _) | (with_reducible refine Kd.C_drewN ?_ _) | (with_reducible refine Kd.C_drew ?_)))
     (case side2=>exact (Kd.R_reads' d8.out).2.1)
     (case side3=>repeat (first | exact (Kd.S_reads' e1.out).2.2 | (with_reducible refine Kd.C_alloc ?_ _) | (with_reducible refine Kd.C_drewN ?_ _) | (with_reducible refine Kd.C_drew ?_)))
     (case side4=>exact (Kd.S_reads' e1.out).2.1)
     (case side5=>repeat (first | exact (Kd.R_reads' d6.out).2.2 | (with_reducible refine Kd.C_alloc ?_ _) | (with_reducible refine Kd.C_drewN ?_ _) | (with_reducible refine Kd.C_drew ?_)))
     (case side6=>exact (Kd.R_reads' d6.out).2.1)
     rintro e F3 ⟨rfl,hb⟩
     have x0:=cU hb (hHeld)
     refine ⟨_,rfl,?_⟩
     replace d8:=rB d8 hb
     replace e1:=A_ (Kd.S_below (ks_ e1) hb)
     replace e2:=rB e2 hb
     replace d5:=rB d5 hb
     replace d6:=rB d6 hb
     replace HB:=bB HB hb
     (try clear hb)
     refine hK.out _ _ (x0) (fun hHeld=>?_)
     clear hK K
     refine nq 91 ?_
     refine pq 9 92 1023 HT_ ?_
     refine done_ (done_of HT_.out (by kernel_rfl)) ?_
     try go_wp2
     go_roundg k2
     case measure=>have:=z6.out;have:=z8.out;omega
     case rel=>exact ⟨(wrap64 (d1 + 1)),rf_,H',⟨by have:=z6.out;have:=z8.out;omega⟩,⟨kr_ d8⟩,⟨ks_ e1⟩,⟨kr_ e2⟩,⟨kr_ d5⟩,⟨kr_ d6⟩,⟨bl HB⟩⟩
end Go.Proofs.Ytjohcjfmlhihbaa.G
set_option linter.unusedSectionVars false
namespace Go.Proofs.Ytjohcjfmlhihbaa.P
open Go Go.RowKit Go.Proofs.Ytjohcjfmlhihbaa.G
open Go.Proofs.YtjohcjfmlhihbaaW.PrintWords Go.Proofs.YtjohcjfmlhihbaaW.PrintMore
theorem fairs_l0 {p:List Int} {u:List S45} (hN:IsN p u) {x:List Rat} (hx:OkR p u x) {w:List Int} (hw:w.length ≤ 1000000) (hp:Ev (fun k=>numnahref07_Portions.f k p u) w):∀ d i,i + d = u.length → Ev (fun k=>numnahlaw07_SharesFairs.l0 k p u (tab u.length (heldI p u x)) w 0 (encL x) (i:Int)) true:=by
 have h6:=hN.u6
 intro d
 induction d with
 | zero =>
  intro i hi
  refine Ev.step (fun k=>by rw [numnahlaw07_SharesFairs.l0,if_neg (by omega)]) (Ev.bind hp (Ev.bind (ev_ints hw) (Ev.congr (fun k=>if_pos rfl) (Ev.congr (fun k=>if_pos rfl) (Ev.bind ev_awake (Ev.now _))))))
 | succ d ih =>
  intro i hi
  have hil:i < u.length:=by omega
  refine Ev.step (fun k=>by rw [numnahlaw07_SharesFairs.l0,if_pos (by omega),if_pos (by omega),if_pos (by rw [tab_length];omega),tab_I hil,wrap_succ (by omega)]) (Ev.bind (ev_rholder hN hx hil) ?_)
  exact Ev.congr (fun k=>if_pos rfl) (ih (i + 1) (by omega))
theorem fairs_pure (p0:List Int) (u0:List S45):∃ k,numnahlaw07_SharesFairs.f k p0 u0 = some true:=by
 refine Ev.rounds ?_
 unfold numnahlaw07_SharesFairs.f
 simp only [list_f,Option.bind_some]
 obtain ⟨p,hp⟩:∃ p,p0.take 11 = p:=⟨_,rfl⟩
 have hpl:p.length ≤ 11:=by rw [← hp,List.length_take];omega
 have hgl:=group_len u0
 refine Ev.bind (ev_group u0) ?_
 obtain ⟨u,hu⟩:∃ u,(u0.take 7).map cutU = u:=⟨_,rfl⟩
 rw [hu] at hgl
 rw [hp,hu]
 have hf:H.fitL p:=by unfold H.fitL;omega
 have e0:=ev_newNet (p:=p) (u:=u) (by omega) (by omega) hf hgl.2
 have e1:=ev_users (p:=p) (u:=u) (by omega) (by omega) hgl.2
 have aw:Ev (fun k=>(numnahlaw07_awake.f k).bind fun t=>some t) true:=Ev.bind ev_awake (Ev.now _)
 by_cases hok:okNet p u = true
 ·rw [hok] at e1
  have hN:=isN hok
  obtain ⟨x,hx,e2,e3⟩:=ev_Fair hok (by omega) (by omega) hf hgl.2
  obtain ⟨Y,G,_,_,_,e4,e5⟩:=ev_Whole2 hok hf hgl.2 (fun _=>True) trivial (fun _ _ _ _ _ _ _ _=>trivial)
  have h6:=hN.u6
  have e6:=ev_same (a:=encL x) (b:=encL x) (by rw [encL_length,hx.len];omega)
  rw [decide_eq_true rfl] at e6
  refine Ev.bind e2 (Ev.bind e4 (Ev.bind e1 (Ev.congr (fun k=>if_pos rfl) (Ev.bind e3 (Ev.bind e6 (Ev.congr (fun k=>if_pos rfl) ?_))))))
  refine Ev.congr (fun k=>if_pos (by rw [tab_length])) ?_
  refine Ev.step (fun k=>?_) (fairs_l0 hN (hx.ok hN) (w:=tab u.length Y) (by rw [tab_length];omega) e5 u.length 0 (by omega))
  rw [numnahlaw07_SharesFairs.j0,if_neg (show ¬ (((0:Int) != 0) = true) by decide)];rfl
 ·have hok':okNet p u = false:=by simpa using hok
  rw [hok'] at e0 e1
  have a1:Ev (fun k=>shares_Fair.f k p u) ([],[],2):=by
   unfold shares_Fair.f
   exact Ev.bind e0 (Ev.now _)
  have a2:Ev (fun k=>shares_Whole.f k p u) ([],2):=by
   unfold shares_Whole.f
   exact Ev.bind e0 (Ev.now _)
  refine Ev.bind a1 (Ev.bind a2 (Ev.bind e1 (Ev.congr (fun k=>if_neg (by decide)) ?_)))
  exact aw
end Go.Proofs.Ytjohcjfmlhihbaa.P
