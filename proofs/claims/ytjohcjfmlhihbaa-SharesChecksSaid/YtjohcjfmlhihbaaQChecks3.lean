/- Several texts, joined. -/
import Derived.Test.YtjohcjfmlhihbaaQChecks2
set_option linter.unusedVariables false
set_option linter.unusedSimpArgs false
namespace Go.Proofs.Ytjohcjfmlhihbaa.G
open Go.RowKit Go.Proofs.YtjohcjfmlhihbaaW.PrintWords Go.Proofs.YtjohcjfmlhihbaaW.PrintLast Go.Proofs.YtjohcjfmlhihbaaW.PrintMore
set_option maxHeartbeats 8000000
set_option maxRecDepth 100000
attribute [local go_sem] cond_true cond_false fld23_0 fld23_1 fld45_0 fld45_1 fld109_0 fld109_1 fld94_0 fld94_1 max2_int min2_int max_two min_two max_three min_three max_four min_four
mutual
def shares_Check.j0:Nat → List (S23) → List Int → Bool → List Int → List (S45) → Option (Int)
 | 0,_,_,_,_,_=>none
 | k + 1,x2,x3,x32,b5,b6=>if x32 = true then (some 10) else (shares_Check.l0 k x2 x3 (x3.length:Int) 0 b5 b6)
def shares_Check.l0:Nat → List (S23) → List Int → Int → Int → List Int → List (S45) → Option (Int)
 | 0,_,_,_,_,_,_=>none
 | k + 1,x2,m2,n2,d7,b5,b6=>if d7 < n2 then (if 0 ≤ d7 then (if d7 < (m2.length:Int) then ((shares_net_holds.f k b5 b6 x2 (rd m2 d7) d7).bind fun d4=>(if d4 = true then (shares_Check.l0 k x2 m2 n2 (wrap64 (d7 + 1)) b5 b6) else (some 10))) else (none)) else (none)) else (some 0)
end
def shares_Check.f (k:Nat) (l0:List Int) (l1:List (S45)) (l2:List (S23)) (l3:List Int):Option (Int):=(shares_newNet.f k l0 l1).bind fun d3=>(if d3 = true then ((shares_net_fair.f k l0 l1).bind fun b4=>((api_Frac_74.f k l2 b4).bind fun b8=>(if b8 = true then (shares_Check.j0 k l2 l3 ((l3.length:Int) != (l1.length:Int)) l0 l1) else (shares_Check.j0 k l2 l3 true l0 l1)))) else (some 2))
theorem shares_Check.mono_l:∀ k,(∀ y0 y1 y2 y3 y4,LeO (shares_Check.j0 k y0 y1 y2 y3 y4) (shares_Check.j0 (k + 1) y0 y1 y2 y3 y4)) ∧ (∀ y0 y1 y2 y3 y4 y5,LeO (shares_Check.l0 k y0 y1 y2 y3 y4 y5) (shares_Check.l0 (k + 1) y0 y1 y2 y3 y4 y5))
 | 0=>⟨fun _ _ _ _ _ r h=>by simp [shares_Check.j0] at h,fun _ _ _ _ _ _ r h=>by simp [shares_Check.l0] at h⟩
 | k + 1=>by
  obtain ⟨h0,h1⟩:=shares_Check.mono_l k
  refine ⟨?_,?_⟩
  ·intro y0 y1 y2 y3 y4
   unfold shares_Check.j0
   repeat' first
   | (with_reducible first | exact h0 _ _ _ _ _ | exact h1 _ _ _ _ _ _ | exact api_Frac_74.mono _ _ _ | exact shares_net_fair.mono _ _ _ | exact shares_net_holds.mono _ _ _ _ _ _ | exact shares_newNet.mono _ _ _ | exact LeO.refl _ | exact LeO.none _ | refine LeO.ite ?_ ?_ | refine LeO.bind ?_ (fun _=>?_))
   | exact LeO.none _ | refine LeO.ite ?_ ?_ | refine LeO.bind ?_ (fun _=>?_)
  intro y0 y1 y2 y3 y4 y5
  unfold shares_Check.l0
  repeat' first
  | (with_reducible first | exact h0 _ _ _ _ _ | exact h1 _ _ _ _ _ _ | exact api_Frac_74.mono _ _ _ | exact shares_net_fair.mono _ _ _ | exact shares_net_holds.mono _ _ _ _ _ _ | exact shares_newNet.mono _ _ _ | exact LeO.refl _ | exact LeO.none _ | refine LeO.ite ?_ ?_ | refine LeO.bind ?_ (fun _=>?_))
  | exact LeO.none _ | refine LeO.ite ?_ ?_ | refine LeO.bind ?_ (fun _=>?_)
theorem shares_Check.mono:∀ a0 a1 a2 a3 k,LeO (shares_Check.f k a0 a1 a2 a3) (shares_Check.f (k + 1) a0 a1 a2 a3):=by
 intro a0 a1 a2 a3 k
 obtain ⟨h0,h1⟩:=shares_Check.mono_l k
 unfold shares_Check.f
 repeat' first
   | (with_reducible first | exact h0 _ _ _ _ _ | exact h1 _ _ _ _ _ _ | exact api_Frac_74.mono _ _ _ | exact shares_net_fair.mono _ _ _ | exact shares_net_holds.mono _ _ _ _ _ _ | exact shares_newNet.mono _ _ _ | exact LeO.refl _ | exact LeO.none _ | refine LeO.ite ?_ ?_ | refine LeO.bind ?_ (fun _=>?_))
   | exact LeO.none _ | refine LeO.ite ?_ ?_ | refine LeO.bind ?_ (fun _=>?_)
theorem shares_Check.calls (k:Nat) (A0:Option Addr) (c0:Nat) (l0:List Int) (A1:Option Addr) (c1:Nat) (l1:List (S45)) (A2:Option Addr) (c2:Nat) (l2:List (S23)) (A3:Option Addr) (c3:Nat) (l3:List Int) (r:Int) (w:World) (n3:Kd.C (Kd.int .i64) w A0 l0.length l0) (n4:l0.length ≤ c0) (n5:Kd.C k45 w A1 l1.length l1) (n6:l1.length ≤ c1) (n7:Kd.C k23 w A2 l2.length l2) (n8:l2.length ≤ c2) (n9:Kd.C (Kd.int .i64) w A3 l3.length l3) (o0:l3.length ≤ c3) (h:shares_Check.f k l0 l1 l2 l3 = some r) :
  Calls Try.prog 40 #[.slice A0 l0.length c0,.slice A1 l1.length c1,.slice A2 l2.length c2,.slice A3 l3.length c3] w fun e w'=>e = .returned (.int .i64 r) ∧ Below w.heap.size w w':=by
 have o1:=Try.underlying109
 have d8:=A_ n3
 have d9:=A_ n4
 clear n3 n4
 have e0:=A_ n5
 have e1:=A_ n6
 clear n5 n6
 have h2:=A_ n7
 have h3:=A_ n8
 clear n7 n8
 have o2:=A_ n9
 have p9:=A_ o0
 clear n9 o0
 have HB:=A_ (Below.refl w.heap.size w)
 have H:((shares_newNet.f k l0 l1).bind fun d3=>(if d3 = true then ((shares_net_fair.f k l0 l1).bind fun b4=>((api_Frac_74.f k l2 b4).bind fun b8=>(if b8 = true then (shares_Check.j0 k l2 l3 ((l3.length:Int) != (l1.length:Int)) l0 l1) else (shares_Check.j0 k l2 l3 true l0 l1)))) else (some 2))) = some r:=h
 clear h
 replace H:=Option.bind_eq_some_iff.mp H
 obtain ⟨d3,o3,H⟩:=H
 replace H:(if d3 = true then ((shares_net_fair.f k l0 l1).bind fun b4=>((api_Frac_74.f k l2 b4).bind fun b8=>(if b8 = true then (shares_Check.j0 k l2 l3 ((l3.length:Int) != (l1.length:Int)) l0 l1) else (shares_Check.j0 k l2 l3 true l0 l1)))) else (some 2)) = some r:=H
 have A5:=A_ o3
 clear o3
 by_cases c6:d3 = true
 case neg =>
  replace c6:=Bool.eq_false_iff.mpr c6
  subst c6
  rw [if_neg (show ¬ (false = true) by decide)] at H
  obtain rfl:=Option.some.inj H
  go_enter Try.func40,Try.ntmps40
  go_wp2_with (first | ((with_reducible refine gate_callee (f:=70) rfl ?_);refine gL (some 16) Try.func70 #[.slice A0 l0.length c0,.slice A1 l1.length c1] ?_;(with_reducible refine (shares_newNet.calls k _ _ l0 _ _ l1 false _ ?side1 ?side2 ?side3 ?side4 A5.out).mono ?_);(case side1=>repeat (first | exact d8.out | (with_reducible refine Kd.C_alloc ?_ _) | (with_reducible refine Kd.C_drewN ?_ _) | (with_reducible refine Kd.C_drew ?_)));(case side2=>exact d9.out);(case side3=>repeat (first | exact e0.out | (with_reducible refine Kd.C_alloc ?_ _) | (with_reducible refine Kd.C_drewN ?_ _) | (with_reducible refine Kd.C_drew ?_)));(case side4=>exact e1.out);rintro e q0 ⟨rfl,hb⟩;refine ⟨_,rfl,?_⟩;replace HB:=bB HB hb;(try clear hb)) | ((with_reducible refine gate_dst (N:=9) rfl ?_);(try (refine gate_guard (by rfl) ?_;dsimp only));refine bx 9 #[.slice none 0 0,.slice none 0 0] 109 ?_;intro d5 hg o4 hbox hb;have d1:=A_ hbox;have e3:=gw hg HB;have o5:=e3;replace HB:=bB HB hb;clear hb hbox hg;have h4:o4.cell? ⟨d5,0,none⟩ = some (.slice none 0 0):=cz d1 0;have h5:o4.cell? ⟨d5,1,none⟩ = some (.slice none 0 0):=cz d1 1;have h6:=blk_frozen d1.out 0;have h7:=blk_frozen d1.out 1))
  go_ret
  exact ⟨by first | rfl | (simp [errW_none,errW_some] <;> rfl) | (simp [*,errW_none,errW_some] <;> rfl),bl HB⟩
 subst c6
 rw [if_pos rfl] at H
 have m3:=A_ H
 clear H
 go_enter Try.func40,Try.ntmps40
 go_upto_region 4 with (first | ((with_reducible refine gate_callee (f:=70) rfl ?_);refine gL (some 16) Try.func70 #[.slice A0 l0.length c0,.slice A1 l1.length c1] ?_;(with_reducible refine (shares_newNet.calls k _ _ l0 _ _ l1 true _ ?side1 ?side2 ?side3 ?side4 A5.out).mono ?_);(case side1=>repeat (first | exact d8.out | (with_reducible refine Kd.C_alloc ?_ _) | (with_reducible refine Kd.C_drewN ?_ _) | (with_reducible refine Kd.C_drew ?_)));(case side2=>exact d9.out);(case side3=>repeat (first | exact e0.out | (with_reducible refine Kd.C_alloc ?_ _) | (with_reducible refine Kd.C_drewN ?_ _) | (with_reducible refine Kd.C_drew ?_)));(case side4=>exact e1.out);rintro e w8 ⟨rfl,hb⟩;refine ⟨_,rfl,?_⟩;replace HB:=bB HB hb;(try clear hb)) | ((with_reducible refine gate_dst (N:=9) rfl ?_);(try (refine gate_guard (by rfl) ?_;dsimp only));refine bx 9 #[.slice none 0 0,.slice none 0 0] 109 ?_;intro b2 hg w9 hbox hb;have b0:=A_ hbox;have e4:=gw hg HB;have o6:=e4;replace HB:=bB HB hb;clear hb hbox hg;have h8:w9.cell? ⟨b2,0,none⟩ = some (.slice none 0 0):=cz b0 0;have h9:w9.cell? ⟨b2,1,none⟩ = some (.slice none 0 0):=cz b0 1;have i0:=blk_frozen b0.out 0;have i1:=blk_frozen b0.out 1))
 (try simp only [Act.put,List.setIfInBounds_toArray,List.set_cons_zero,List.set_cons_succ])
 go_cut [32] (fun p7 wc=>∃ (kq:Nat) (d2:Bool),p7 = .bool d2 ∧ Aside0 (shares_Check.j0 kq l2 l3 d2 l0 l1 = some r) ∧ Aside0 (kq ≤ k) ∧ Aside0 (wc.heap[b2]? = some (.cells #[(.slice A0 l0.length c0),(.slice A1 l1.length c1)] 109 (0,0))) ∧ Aside0 (Below w.heap.size w wc))
 case first =>
  have H:=m3.out
  clear m3
  replace H:=Option.bind_eq_some_iff.mp H
  obtain ⟨b4,e5,H⟩:=H
  replace H:((api_Frac_74.f k l2 b4).bind fun b8=>(if b8 = true then (shares_Check.j0 k l2 l3 ((l3.length:Int) != (l1.length:Int)) l0 l1) else (shares_Check.j0 k l2 l3 true l0 l1))) = some r:=H
  have o7:=A_ e5
  clear e5
  replace H:=Option.bind_eq_some_iff.mp H
  obtain ⟨b8,e6,H⟩:=H
  replace H:(if b8 = true then (shares_Check.j0 k l2 l3 ((l3.length:Int) != (l1.length:Int)) l0 l1) else (shares_Check.j0 k l2 l3 true l0 l1)) = some r:=H
  have o8:=A_ e6
  clear e6
  by_cases i2:b8 = true
  ·subst i2
   rw [if_pos rfl] at H
   have H':=A_ H
   clear H
   have i3:w9.cell? ⟨b2,0,none⟩ = some (.slice none 0 0):=cz b0 0
   have i4:w9.cell? ⟨b2,1,none⟩ = some (.slice none 0 0):=cz b0 1
   have i5:=blk_frozen b0.out 0
   have i6:=blk_frozen b0.out 1
   go_wp2_with (first | ((with_reducible refine gate_callee (f:=71) rfl ?_);refine gL (some 23) Try.func71 #[.agg #[.slice A0 l0.length c0,.slice A1 l1.length c1]] ?_;(with_reducible refine (shares_net_fair.calls k _ _ l0 _ _ l1 b4 _ ?side1 ?side2 ?side3 ?side4 o7.out).mono ?_);(case side1=>exact Kd.C_below d8.out (bl HB));(case side2=>exact d9.out);(case side3=>exact Kd.C_below e0.out (bl HB));(case side4=>exact e1.out);rintro e q1 ⟨m4,rfl,m5,hb⟩;refine ⟨_,rfl,?_⟩;have b7:=A_ (Kd.R_lower m5 (below_size (bl HB)));replace b0:=A_ (blk_below (g:=b2) (o:=.cells #[.slice A0 l0.length c0,.slice A1 l1.length c1] 109 (0,0)) (by (with_reducible repeat (first | refine blk_drewN ?_ _ | refine blk_drew ?_ | refine blk_alloc ?_ _));refine blk_put (cs:=#[.slice A0 l0.length c0,.slice none 0 0]) ?_ 1 _ rfl;(with_reducible repeat (first | refine blk_drewN ?_ _ | refine blk_drew ?_ | refine blk_alloc ?_ _));refine blk_put (cs:=#[.slice none 0 0,.slice none 0 0]) ?_ 0 _ rfl;(with_reducible repeat (first | refine blk_drewN ?_ _ | refine blk_drew ?_ | refine blk_alloc ?_ _));exact b0.out) hb);replace HB:=bB HB hb;(try clear hb);obtain ⟨m6,m7,m8⟩:=Kd.R_slice b7.out;subst m8) | ((with_reducible refine gate_callee (f:=74) rfl ?_);refine gL (some 24) Try.func74 #[.slice A2 l2.length c2,.slice m6 b4.length m7] ?_;(with_reducible refine (api_Frac_74.calls k _ _ l2 _ _ b4 true _ ?side1 ?side2 ?side3 ?side4 o8.out).mono ?_);(case side1=>exact cB h2 HB);(case side2=>exact h3.out);(case side3=>repeat (first | exact (Kd.R_reads' b7.out).2.2 | (with_reducible refine Kd.C_alloc ?_ _) | (with_reducible refine Kd.C_drewN ?_ _) | (with_reducible refine Kd.C_drew ?_)));(case side4=>exact (Kd.R_reads' b7.out).2.1);rintro e w' ⟨rfl,⟨nd,rfl⟩⟩;refine ⟨_,rfl,?_⟩))
   go_meet
   case rel=>exact ⟨_,(((l3.length:Int) != (l1.length:Int))),(by first | rfl | (simp;done) | (simp [*];done)),H',⟨by first | omega | exact Nat.le_refl _⟩,⟨by (with_reducible repeat (first | refine blk_drewN ?_ _ | refine blk_drew ?_ | refine blk_alloc ?_ _));exact b0.out⟩,⟨bl HB⟩⟩
  replace i2:=Bool.eq_false_iff.mpr i2
  subst i2
  rw [if_neg (show ¬ (false = true) by decide)] at H
  have H':=A_ H
  clear H
  have i7:w9.cell? ⟨b2,0,none⟩ = some (.slice none 0 0):=cz b0 0
  have i8:w9.cell? ⟨b2,1,none⟩ = some (.slice none 0 0):=cz b0 1
  have i9:=blk_frozen b0.out 0
  have j5:=blk_frozen b0.out 1
  go_wp2_with (first | ((with_reducible refine gate_callee (f:=71) rfl ?_);refine gL (some 23) Try.func71 #[.agg #[.slice A0 l0.length c0,.slice A1 l1.length c1]] ?_;(with_reducible refine (shares_net_fair.calls k _ _ l0 _ _ l1 b4 _ ?side1 ?side2 ?side3 ?side4 o7.out).mono ?_);(case side1=>exact Kd.C_below d8.out (bl HB));(case side2=>exact d9.out);(case side3=>exact Kd.C_below e0.out (bl HB));(case side4=>exact e1.out);rintro e q2 ⟨m4,rfl,m5,hb⟩;refine ⟨_,rfl,?_⟩;have b7:=A_ (Kd.R_lower m5 (below_size (bl HB)));replace b0:=A_ (blk_below (g:=b2) (o:=.cells #[.slice A0 l0.length c0,.slice A1 l1.length c1] 109 (0,0)) (by (with_reducible repeat (first | refine blk_drewN ?_ _ | refine blk_drew ?_ | refine blk_alloc ?_ _));refine blk_put (cs:=#[.slice A0 l0.length c0,.slice none 0 0]) ?_ 1 _ rfl;(with_reducible repeat (first | refine blk_drewN ?_ _ | refine blk_drew ?_ | refine blk_alloc ?_ _));refine blk_put (cs:=#[.slice none 0 0,.slice none 0 0]) ?_ 0 _ rfl;(with_reducible repeat (first | refine blk_drewN ?_ _ | refine blk_drew ?_ | refine blk_alloc ?_ _));exact b0.out) hb);replace HB:=bB HB hb;(try clear hb);obtain ⟨m9,n0,n1⟩:=Kd.R_slice b7.out;subst n1) | ((with_reducible refine gate_callee (f:=74) rfl ?_);refine gL (some 24) Try.func74 #[.slice A2 l2.length c2,.slice m9 b4.length n0] ?_;(with_reducible refine (api_Frac_74.calls k _ _ l2 _ _ b4 false _ ?side1 ?side2 ?side3 ?side4 o8.out).mono ?_);(case side1=>exact cB h2 HB);(case side2=>exact h3.out);(case side3=>repeat (first | exact (Kd.R_reads' b7.out).2.2 | (with_reducible refine Kd.C_alloc ?_ _) | (with_reducible refine Kd.C_drewN ?_ _) | (with_reducible refine Kd.C_drew ?_)));(case side4=>exact (Kd.R_reads' b7.out).2.1);rintro e w' ⟨rfl,⟨nd,rfl⟩⟩;refine ⟨_,rfl,?_⟩))
  go_meet
  case rel=>exact ⟨_,(true),(by first | rfl | (simp;done) | (simp [*];done)),H',⟨by first | omega | exact Nat.le_refl _⟩,⟨by (with_reducible repeat (first | refine blk_drewN ?_ _ | refine blk_drew ?_ | refine blk_alloc ?_ _));exact b0.out⟩,⟨bl HB⟩⟩
 case rest =>
  clear m3
  obtain ⟨kq,d2,rfl,HA,o9,b0,HB⟩:=hcut
  cases kq with
  | zero=>exact absurd HA.out (by simp [shares_Check.j0])
  | succ p0 =>
   have H:=HA.out
   clear HA
   simp only [shares_Check.j0] at H
   by_cases j7:d2 = true
   ·subst j7
    rw [if_pos rfl] at H
    obtain rfl:=Option.some.inj H
    go_wp2
    go_ret
    exact ⟨by first | rfl | (simp [errW_none,errW_some] <;> rfl) | (simp [*,errW_none,errW_some] <;> rfl),bl HB⟩
   replace j7:=Bool.eq_false_iff.mpr j7
   subst j7
   rw [if_neg (show ¬ (false = true) by decide)] at H
   have H':=A_ H
   clear H
   go_wp2
   go_loopg [35] p0 (fun kq p8 w'=>∃ (b1:Int),p8 = .int .i64 b1 ∧ Aside0 (shares_Check.l0 kq l2 l3 (l3.length:Int) b1 l0 l1 = some r) ∧ Aside0 (kq ≤ p0) ∧ Aside0 (w'.heap[b2]? = some (.cells #[(.slice A0 l0.length c0),(.slice A1 l1.length c1)] 109 (0,0))) ∧ Aside0 (Below w.heap.size w w'))
   case atStart=>exact ⟨(0),(by first | rfl | (simp;done) | (simp [*];done)),H',⟨Nat.le_refl _⟩,⟨by (with_reducible repeat (first | refine blk_drewN ?_ _ | refine blk_drew ?_ | refine blk_alloc ?_ _));exact b0.out⟩,⟨bl HB⟩⟩
   case round =>
    clear H'
    obtain ⟨b1,rfl,HA,p1,b0,HB⟩:=hrel
    cases gk with
    | zero=>exact absurd HA.out (by simp [shares_Check.l0])
    | succ k2 =>
     have H:=HA.out
     clear HA
     simp only [shares_Check.l0] at H
     by_cases e2:b1 < (l3.length:Int)
     case neg =>
      rw [if_neg e2] at H
      have e7:=decide_eq_false e2
      clear e2
      obtain rfl:=Option.some.inj H
      go_wp2
      go_ret
      exact ⟨by first | rfl | (simp [errW_none,errW_some] <;> rfl) | (simp [*,errW_none,errW_some] <;> rfl),bl HB⟩
     rw [if_pos e2] at H
     have e7:=decide_eq_true e2
     clear e2
     replace H:=gd H
     obtain ⟨p2,H⟩:=H
     have p3:=decide_eq_true p2
     clear p2
     replace H:=gd H
     obtain ⟨p4,H⟩:=H
     have p5:=decide_eq_true p4
     clear p4
     replace H:=Option.bind_eq_some_iff.mp H
     obtain ⟨d4,e8,H⟩:=H
     replace H:(if d4 = true then (shares_Check.l0 k2 l2 l3 (l3.length:Int) (wrap64 (b1 + 1)) l0 l1) else (some 10)) = some r:=H
     have p6:=A_ e8
     clear e8
     by_cases j8:d4 = true
     case neg =>
      replace j8:=Bool.eq_false_iff.mpr j8
      subst j8
      rw [if_neg (show ¬ (false = true) by decide)] at H
      obtain rfl:=Option.some.inj H
      have b9:0 ≤ (b1:Int):=of_decide_eq_true (by first | (with_reducible assumption) | assumption)
      have d0:b1 < (l3.length:Int):=of_decide_eq_true (by first | (with_reducible assumption) | assumption)
      obtain ⟨e9,d6,b3⟩:=Kd.at_int o2.out b1 b9 d0
      cases d6
      replace b3:=(HB.out.cell (World.block_lt_of_cell? w _ b3)).trans b3
      replace b9:=eq_true b9
      replace d0:=eq_true d0
      have j9:wr.cell? ⟨b2,0,none⟩ = some (.slice A0 l0.length c0):=cz b0 0
      have l5:wr.cell? ⟨b2,1,none⟩ = some (.slice A1 l1.length c1):=cz b0 1
      have l6:=blk_frozen b0.out 0
      have l7:=blk_frozen b0.out 1
      go_wp2_with (first | ((with_reducible refine gate_callee (f:=76) rfl ?_);refine gL (some 44) Try.func76 #[.agg #[.slice A0 l0.length c0,.slice A1 l1.length c1],.slice A2 l2.length c2,.int .i64 (rd l3 b1),.int .i64 b1] ?_;(with_reducible refine (shares_net_holds.calls k2 _ _ l0 _ _ l1 _ _ l2 (rd l3 b1) b1 false _ ?side1 ?side2 ?side3 ?side4 ?side5 ?side6 p6.out).mono ?_);(case side1=>exact cB d8 HB);(case side2=>exact d9.out);(case side3=>exact cB e0 HB);(case side4=>exact e1.out);(case side5=>exact cB h2 HB);(case side6=>exact h3.out);rintro e q3 ⟨rfl,hb⟩;refine ⟨_,rfl,?_⟩;replace b0:=kB b0 hb;replace HB:=bB HB hb;(try clear hb)))
      go_ret
      exact ⟨by first | rfl | (simp [errW_none,errW_some] <;> rfl) | (simp [*,errW_none,errW_some] <;> rfl),bl HB⟩
     subst j8
     rw [if_pos rfl] at H
     have H':=A_ H
     clear H
     have b9:0 ≤ (b1:Int):=of_decide_eq_true (by first | (with_reducible assumption) | assumption)
     have d0:b1 < (l3.length:Int):=of_decide_eq_true (by first | (with_reducible assumption) | assumption)
     obtain ⟨e9,d6,b3⟩:=Kd.at_int o2.out b1 b9 d0
     cases d6
     replace b3:=(HB.out.cell (World.block_lt_of_cell? w _ b3)).trans b3
     replace b9:=eq_true b9
     replace d0:=eq_true d0
     have l8:wr.cell? ⟨b2,0,none⟩ = some (.slice A0 l0.length c0):=cz b0 0
     have l9:wr.cell? ⟨b2,1,none⟩ = some (.slice A1 l1.length c1):=cz b0 1
     have m0:=blk_frozen b0.out 0
     have m1:=blk_frozen b0.out 1
     go_wp2_with (first | ((with_reducible refine gate_callee (f:=76) rfl ?_);refine gL (some 44) Try.func76 #[.agg #[.slice A0 l0.length c0,.slice A1 l1.length c1],.slice A2 l2.length c2,.int .i64 (rd l3 b1),.int .i64 b1] ?_;(with_reducible refine (shares_net_holds.calls k2 _ _ l0 _ _ l1 _ _ l2 (rd l3 b1) b1 true _ ?side1 ?side2 ?side3 ?side4 ?side5 ?side6 p6.out).mono ?_);(case side1=>exact cB d8 HB);(case side2=>exact d9.out);(case side3=>exact cB e0 HB);(case side4=>exact e1.out);(case side5=>exact cB h2 HB);(case side6=>exact h3.out);rintro e q4 ⟨rfl,hb⟩;refine ⟨_,rfl,?_⟩;replace b0:=kB b0 hb;replace HB:=bB HB hb;(try clear hb)))
     go_roundg k2
     case measure=>have:=o9.out;have:=p1.out;omega
     case rel=>exact ⟨(wrap64 (b1 + 1)),(by first | rfl | (simp;done) | (simp [*];done)),H',⟨by have:=o9.out;have:=p1.out;omega⟩,⟨by (with_reducible repeat (first | refine blk_drewN ?_ _ | refine blk_drew ?_ | refine blk_alloc ?_ _));exact b0.out⟩,⟨bl HB⟩⟩
mutual
def numnahlaw07_SharesChecks.j0:Nat → List Int → List (S45) → List Int → Int → List (S23) → Bool → Option (Bool)
 | 0,_,_,_,_,_,_=>none
 | k + 1,x7,x8,m6,i3,p0,j8=>numnahlaw07_SharesChecks.l0 k x7 x8 m6 i3 p0 j8 0
def numnahlaw07_SharesChecks.j2:Nat → Int → Bool → Option (Bool)
 | 0,_,_=>none
 | k + 1,i3,j8=>if j8 = true then (if i3 = 0 then ((numnahlaw07_awake.f k).bind fun i0=>(some i0)) else (some false)) else (if i3 = 10 then ((numnahlaw07_awake.f k).bind fun i1=>(some i1)) else (some false))
def numnahlaw07_SharesChecks.l0:Nat → List Int → List (S45) → List Int → Int → List (S23) → Bool → Int → Option (Bool)
 | 0,_,_,_,_,_,_,_=>none
 | k + 1,x7,x8,m6,i3,p0,j8,m4=>if m4 < (x8.length:Int) then (if j8 = true then (if 0 ≤ m4 then (if m4 < (m6.length:Int) then ((numnahref07_Holds.f k x7 x8 p0 (rd m6 m4) m4).bind fun h8=>(numnahlaw07_SharesChecks.l0 k x7 x8 m6 i3 p0 h8 (wrap64 (m4 + 1)))) else (none)) else (none)) else (numnahlaw07_SharesChecks.j2 k i3 j8)) else (numnahlaw07_SharesChecks.j2 k i3 j8)
end
def numnahlaw07_SharesChecks.f (k:Nat) (l0:List Int) (l1:List (S45)) (d2:List (S23)) (d1:List Int):Option (Bool):=(numnahlaw07_list.f l0).bind fun b2=>((numnahlaw07_group.f k l1).bind fun b0=>((numnahlaw07_fracs.f d2).bind fun b9=>((numnahlaw07_list.f d1).bind fun b4=>((shares_Check.f k b2 b0 b9 b4).bind fun b6=>((numnahref07_Users.f k b2 b0).bind fun d6=>(if d6 = true then ((numnahref07_Fair.f k b2 b0).bind fun b7=>((numnahref07_Same.f k b9 b7).bind fun d3=>(if d3 = true then (numnahlaw07_SharesChecks.j0 k b2 b0 b4 b6 b7 ((b4.length:Int) == (b0.length:Int))) else (numnahlaw07_SharesChecks.j0 k b2 b0 b4 b6 b7 false)))) else (if b6 = 2 then ((numnahlaw07_awake.f k).bind fun d5=>(some d5)) else (some false))))))))
theorem numnahlaw07_SharesChecks.mono_l:∀ k,(∀ y0 y1 y2 y3 y4 y5,LeO (numnahlaw07_SharesChecks.j0 k y0 y1 y2 y3 y4 y5) (numnahlaw07_SharesChecks.j0 (k + 1) y0 y1 y2 y3 y4 y5)) ∧ (∀ y0 y1,LeO (numnahlaw07_SharesChecks.j2 k y0 y1) (numnahlaw07_SharesChecks.j2 (k + 1) y0 y1)) ∧ (∀ y0 y1 y2 y3 y4 y5 y6,LeO (numnahlaw07_SharesChecks.l0 k y0 y1 y2 y3 y4 y5 y6) (numnahlaw07_SharesChecks.l0 (k + 1) y0 y1 y2 y3 y4 y5 y6))
 | 0=>⟨fun _ _ _ _ _ _ r h=>by simp [numnahlaw07_SharesChecks.j0] at h,fun _ _ r h=>by simp [numnahlaw07_SharesChecks.j2] at h,fun _ _ _ _ _ _ _ r h=>by simp [numnahlaw07_SharesChecks.l0] at h⟩
 | k + 1=>by
  obtain ⟨m7,m8,m9⟩:=numnahlaw07_SharesChecks.mono_l k
  refine ⟨?_,?_,?_⟩
  ·intro y0 y1 y2 y3 y4 y5
   unfold numnahlaw07_SharesChecks.j0
   repeat' first
   | (with_reducible first | exact m7 _ _ _ _ _ _ | exact m8 _ _ | exact m9 _ _ _ _ _ _ _ | exact numnahlaw07_awake.mono _ | exact numnahlaw07_group.mono _ _ | exact numnahref07_Fair.mono _ _ _ | exact numnahref07_Holds.mono _ _ _ _ _ _ | exact numnahref07_Same.mono _ _ _ | exact numnahref07_Users.mono _ _ _ | exact shares_Check.mono _ _ _ _ _ | exact LeO.refl _ | exact LeO.none _ | refine LeO.ite ?_ ?_ | refine LeO.bind ?_ (fun _=>?_))
   | exact LeO.none _ | refine LeO.ite ?_ ?_ | refine LeO.bind ?_ (fun _=>?_)
  ·intro y0 y1
   unfold numnahlaw07_SharesChecks.j2
   repeat' first
   | (with_reducible first | exact m7 _ _ _ _ _ _ | exact m8 _ _ | exact m9 _ _ _ _ _ _ _ | exact numnahlaw07_awake.mono _ | exact numnahlaw07_group.mono _ _ | exact numnahref07_Fair.mono _ _ _ | exact numnahref07_Holds.mono _ _ _ _ _ _ | exact numnahref07_Same.mono _ _ _ | exact numnahref07_Users.mono _ _ _ | exact shares_Check.mono _ _ _ _ _ | exact LeO.refl _ | exact LeO.none _ | refine LeO.ite ?_ ?_ | refine LeO.bind ?_ (fun _=>?_))
   | exact LeO.none _ | refine LeO.ite ?_ ?_ | refine LeO.bind ?_ (fun _=>?_)
  intro y0 y1 y2 y3 y4 y5 y6
  unfold numnahlaw07_SharesChecks.l0
  repeat' first
  | (with_reducible first | exact m7 _ _ _ _ _ _ | exact m8 _ _ | exact m9 _ _ _ _ _ _ _ | exact numnahlaw07_awake.mono _ | exact numnahlaw07_group.mono _ _ | exact numnahref07_Fair.mono _ _ _ | exact numnahref07_Holds.mono _ _ _ _ _ _ | exact numnahref07_Same.mono _ _ _ | exact numnahref07_Users.mono _ _ _ | exact shares_Check.mono _ _ _ _ _ | exact LeO.refl _ | exact LeO.none _ | refine LeO.ite ?_ ?_ | refine LeO.bind ?_ (fun _=>?_))
  | exact LeO.none _ | refine LeO.ite ?_ ?_ | refine LeO.bind ?_ (fun _=>?_)
theorem numnahlaw07_SharesChecks.mono:∀ a0 a1 a2 a3 k,LeO (numnahlaw07_SharesChecks.f k a0 a1 a2 a3) (numnahlaw07_SharesChecks.f (k + 1) a0 a1 a2 a3):=by
 intro a0 a1 a2 a3 k
 obtain ⟨m7,m8,m9⟩:=numnahlaw07_SharesChecks.mono_l k
 unfold numnahlaw07_SharesChecks.f
 repeat' first
   | (with_reducible first | exact m7 _ _ _ _ _ _ | exact m8 _ _ | exact m9 _ _ _ _ _ _ _ | exact numnahlaw07_awake.mono _ | exact numnahlaw07_group.mono _ _ | exact numnahref07_Fair.mono _ _ _ | exact numnahref07_Holds.mono _ _ _ _ _ _ | exact numnahref07_Same.mono _ _ _ | exact numnahref07_Users.mono _ _ _ | exact shares_Check.mono _ _ _ _ _ | exact LeO.refl _ | exact LeO.none _ | refine LeO.ite ?_ ?_ | refine LeO.bind ?_ (fun _=>?_))
   | exact LeO.none _ | refine LeO.ite ?_ ?_ | refine LeO.bind ?_ (fun _=>?_)
def numnahlaw07_SharesChecks.T2:Bool × List (List Nat × List Nat):=(true,[([],[]),([0],[0]),([1],[1]),([],[]),([3],[3]),([4,2],[4]),([2,5,0,1,2],[2]),([5,6,0,1,2,3,4,5,6],[5])])
def numnahlaw07_SharesChecks.B2:List Nat:=[0,1,3,0,8,31,63,127]
theorem numnahlaw07_SharesChecks.tab2:rtab .any (opsOf Try.f10 2) = numnahlaw07_SharesChecks.T2:=by kernel_rfl
theorem numnahlaw07_SharesChecks.bits2:waitsOk numnahlaw07_SharesChecks.T2.2 numnahlaw07_SharesChecks.B2 = true:=by kernel_rfl
theorem numnahlaw07_SharesChecks.calls (k:Nat) (A0:Option Addr) (c0:Nat) (l0:List Int) (A1:Option Addr) (c1:Nat) (l1:List (S45)) (e0:Option Addr) (e1:Nat) (d2:List (S23)) (e2:Option Addr) (e3:Nat) (d1:List Int) (r:Bool) (w:World) (s2:Kd.C (Kd.int .i64) w A0 l0.length l0) (s3:l0.length ≤ c0) (s4:Kd.C k45 w A1 l1.length l1) (s5:l1.length ≤ c1) (i4:Kd.C k23 w e0 d2.length d2) (i5:d2.length ≤ e1) (i6:Kd.C (Kd.int .i64) w e2 d1.length d1) (i7:d1.length ≤ e3) (h:numnahlaw07_SharesChecks.f k l0 l1 d2 d1 = some r) (hrt_:r = true) :
  Calls Try.prog 10 #[.slice A0 l0.length c0,.slice A1 l1.length c1,.agg #[.slice e0 d2.length e1,.slice e2 d1.length e3]] w fun e w'=>e = .returned (.bool r) ∧ Below w.heap.size w w':=by
 have HRT:=Aside0.mk hrt_
 clear hrt_
 have x2:=Try.underlying58
 have s6:=A_ s2
 have s7:=A_ s3
 clear s2 s3
 have s8:=A_ s4
 have s9:=A_ s5
 clear s4 s5
 have i8:=A_ i4
 have i9:=A_ i5
 clear i4 i5
 have j5:=A_ i6
 have j7:=A_ i7
 clear i6 i7
 have HB:=A_ (Below.refl w.heap.size w)
 have H:((numnahlaw07_list.f l0).bind fun b2=>((numnahlaw07_group.f k l1).bind fun b0=>((numnahlaw07_fracs.f d2).bind fun b9=>((numnahlaw07_list.f d1).bind fun b4=>((shares_Check.f k b2 b0 b9 b4).bind fun b6=>((numnahref07_Users.f k b2 b0).bind fun d6=>(if d6 = true then ((numnahref07_Fair.f k b2 b0).bind fun b7=>((numnahref07_Same.f k b9 b7).bind fun d3=>(if d3 = true then (numnahlaw07_SharesChecks.j0 k b2 b0 b4 b6 b7 ((b4.length:Int) == (b0.length:Int))) else (numnahlaw07_SharesChecks.j0 k b2 b0 b4 b6 b7 false)))) else (if b6 = 2 then ((numnahlaw07_awake.f k).bind fun d5=>(some d5)) else (some false))))))))) = some r:=h
 clear h
 replace H:=Option.bind_eq_some_iff.mp H
 obtain ⟨b2,t0,H⟩:=H
 replace H:((numnahlaw07_group.f k l1).bind fun b0=>((numnahlaw07_fracs.f d2).bind fun b9=>((numnahlaw07_list.f d1).bind fun b4=>((shares_Check.f k b2 b0 b9 b4).bind fun b6=>((numnahref07_Users.f k b2 b0).bind fun d6=>(if d6 = true then ((numnahref07_Fair.f k b2 b0).bind fun b7=>((numnahref07_Same.f k b9 b7).bind fun d3=>(if d3 = true then (numnahlaw07_SharesChecks.j0 k b2 b0 b4 b6 b7 ((b4.length:Int) == (b0.length:Int))) else (numnahlaw07_SharesChecks.j0 k b2 b0 b4 b6 b7 false)))) else (if b6 = 2 then ((numnahlaw07_awake.f k).bind fun d5=>(some d5)) else (some false)))))))) = some r:=H
 have A4:=A_ t0
 clear t0
 replace H:=Option.bind_eq_some_iff.mp H
 obtain ⟨b0,t1,H⟩:=H
 replace H:((numnahlaw07_fracs.f d2).bind fun b9=>((numnahlaw07_list.f d1).bind fun b4=>((shares_Check.f k b2 b0 b9 b4).bind fun b6=>((numnahref07_Users.f k b2 b0).bind fun d6=>(if d6 = true then ((numnahref07_Fair.f k b2 b0).bind fun b7=>((numnahref07_Same.f k b9 b7).bind fun d3=>(if d3 = true then (numnahlaw07_SharesChecks.j0 k b2 b0 b4 b6 b7 ((b4.length:Int) == (b0.length:Int))) else (numnahlaw07_SharesChecks.j0 k b2 b0 b4 b6 b7 false)))) else (if b6 = 2 then ((numnahlaw07_awake.f k).bind fun d5=>(some d5)) else (some false))))))) = some r:=H
 have A5:=A_ t1
 clear t1
 replace H:=Option.bind_eq_some_iff.mp H
 obtain ⟨b9,t2,H⟩:=H
 replace H:((numnahlaw07_list.f d1).bind fun b4=>((shares_Check.f k b2 b0 b9 b4).bind fun b6=>((numnahref07_Users.f k b2 b0).bind fun d6=>(if d6 = true then ((numnahref07_Fair.f k b2 b0).bind fun b7=>((numnahref07_Same.f k b9 b7).bind fun d3=>(if d3 = true then (numnahlaw07_SharesChecks.j0 k b2 b0 b4 b6 b7 ((b4.length:Int) == (b0.length:Int))) else (numnahlaw07_SharesChecks.j0 k b2 b0 b4 b6 b7 false)))) else (if b6 = 2 then ((numnahlaw07_awake.f k).bind fun d5=>(some d5)) else (some false)))))) = some r:=H
 have A6:=A_ t2
 clear t2
 replace H:=Option.bind_eq_some_iff.mp H
 obtain ⟨b4,t3,H⟩:=H
 replace H:((shares_Check.f k b2 b0 b9 b4).bind fun b6=>((numnahref07_Users.f k b2 b0).bind fun d6=>(if d6 = true then ((numnahref07_Fair.f k b2 b0).bind fun b7=>((numnahref07_Same.f k b9 b7).bind fun d3=>(if d3 = true then (numnahlaw07_SharesChecks.j0 k b2 b0 b4 b6 b7 ((b4.length:Int) == (b0.length:Int))) else (numnahlaw07_SharesChecks.j0 k b2 b0 b4 b6 b7 false)))) else (if b6 = 2 then ((numnahlaw07_awake.f k).bind fun d5=>(some d5)) else (some false))))) = some r:=H
 have A7:=A_ t3
 clear t3
 replace H:=Option.bind_eq_some_iff.mp H
 obtain ⟨b6,t4,H⟩:=H
 replace H:((numnahref07_Users.f k b2 b0).bind fun d6=>(if d6 = true then ((numnahref07_Fair.f k b2 b0).bind fun b7=>((numnahref07_Same.f k b9 b7).bind fun d3=>(if d3 = true then (numnahlaw07_SharesChecks.j0 k b2 b0 b4 b6 b7 ((b4.length:Int) == (b0.length:Int))) else (numnahlaw07_SharesChecks.j0 k b2 b0 b4 b6 b7 false)))) else (if b6 = 2 then ((numnahlaw07_awake.f k).bind fun d5=>(some d5)) else (some false)))) = some r:=H
 have A8:=A_ t4
 clear t4
 replace H:=Option.bind_eq_some_iff.mp H
 obtain ⟨d6,t5,H⟩:=H
 replace H:(if d6 = true then ((numnahref07_Fair.f k b2 b0).bind fun b7=>((numnahref07_Same.f k b9 b7).bind fun d3=>(if d3 = true then (numnahlaw07_SharesChecks.j0 k b2 b0 b4 b6 b7 ((b4.length:Int) == (b0.length:Int))) else (numnahlaw07_SharesChecks.j0 k b2 b0 b4 b6 b7 false)))) else (if b6 = 2 then ((numnahlaw07_awake.f k).bind fun d5=>(some d5)) else (some false))) = some r:=H
 have A9:=A_ t5
 clear t5
 by_cases c10:d6 = true
 case neg =>
  replace c10:=Bool.eq_false_iff.mpr c10
  subst c10
  rw [if_neg (show ¬ (false = true) by decide)] at H
  by_cases j9:b6 = 2
  case neg =>
   rw [if_neg j9] at H
   have n0:(b6 == 2) = false:=beq_eq_false_iff_ne.mpr j9
   have n1:(b6 != 2) = true:=bne_iff_ne.mpr j9
   exact absurd ((Option.some.inj H).trans HRT.out) (by decide)
  rw [if_pos j9] at H
  have n0:(b6 == 2) = true:=beq_iff_eq.mpr j9
  have n1:(b6 != 2) = false:=bne_eq_false_iff_eq.mpr j9
  clear j9
  replace H:=Option.bind_eq_some_iff.mp H
  obtain ⟨d5,n2,H⟩:=H
  replace H:(some d5) = some r:=H
  have x3:=A_ n2
  clear n2
  obtain rfl:=Option.some.inj H
  go_enter Try.func10,Try.ntmps10
  try go_wp2_with (first | ((with_reducible refine gate_dst (N:=5) rfl ?_);(try (refine gate_guard (by rfl) ?_;dsimp only));refine bx 5 #[.slice e0 d2.length e1,.slice e2 d1.length e3] 58 ?_;intro d7 hg z1 hbox hb;have b1:=A_ hbox;have h9:=gw hg HB;have n3:=h9;replace HB:=bB HB hb;clear hb hbox hg) | ((with_reducible refine gate_callee (f:=35) rfl ?_);refine gL (some 16) Try.func35 #[.slice A0 l0.length c0] ?_;(with_reducible refine (numnahlaw07_list.calls _ _ l0 b2 _ ?side1 ?side2 A4.out).mono ?_);(case side1=>exact cB s6 HB);(case side2=>exact s7.out);rintro e z2 ⟨p6,rfl,e4,hb⟩;refine ⟨_,rfl,?_⟩;have b3:=A_ (Kd.R_lower e4 (below_size (bl HB)));replace b1:=kB b1 hb;replace HB:=bB HB hb;(try clear hb)) | ((with_reducible refine gate_callee (f:=39) rfl ?_);refine gL (some 18) Try.func39 #[.slice A1 l1.length c1] ?_;(with_reducible refine (numnahlaw07_group.calls k _ _ l1 b0 _ ?side1 ?side2 A5.out).mono ?_);(case side1=>exact cB s8 HB);(case side2=>exact s9.out);rintro e x4 ⟨p7,rfl,e4,hb⟩;refine ⟨_,rfl,?_⟩;have b5:=A_ (Kd.S_lower (Kd.S_new' e4 (Kd.R_lt (rs b3))) (below_size (bl HB)));replace b3:=rB b3 hb;replace b1:=kB b1 hb;replace HB:=bB HB hb;(try clear hb)))
  replace b3:=rD b3
  replace b5:=A_ (Kd.S_drew b5.out)
  replace b1:=kD b1
  replace HB:=bD HB
  refine st 8 (fun w'=>w'.cell? ⟨d7,0,none⟩ = some (.slice e0 d2.length e1) ∧ w'.cell? ⟨d7,1,none⟩ = some (.slice e2 d1.length e3)) [] numnahlaw07_SharesChecks.tab2 numnahlaw07_SharesChecks.bits2 (fun hHeld HT_ HW_=>?_)
  generalize x4.drew = z3 at b3 b5 b1 HB hHeld ⊢
  refine pq 0 19 1 HT_ ?_
  refine pq 3 22 9 HT_ ?_
  refine tq 1 20 11 HT_ HW_ hHeld ?_
  refine tq 4 23 27 HT_ HW_ hHeld ?_
  refine oq 2 21 31 HT_ (fun K hK=>?_)
  refine gq Try.func36 #[.slice e0 d2.length e1] ?_
  with_reducible refine (numnahlaw07_fracs.calls _ _ d2 b9 _ ?side1 ?side2 A6.out).mono ?_
  (case side1=>exact cB i8 HB)
  (case side2=>exact i9.out)
  rintro e z4 ⟨p8,rfl,e4,hb⟩
  refine ⟨_,rfl,?_⟩
  have b8:=A_ (Kd.R_lower e4 (below_size (bl HB)))
  replace b3:=rB b3 hb
  replace b5:=A_ (Kd.S_below (by (with_reducible repeat (first | apply Kd.S_alloc | apply Kd.S_drewN | apply Kd.S_drew));exact b5.out) hb)
  replace b1:=kB b1 hb
  replace HB:=bB HB hb
  (try clear hb)
  refine hz hK (fun hHeld=>?_)
  clear hK K
  refine nq 21 ?_
  refine oq 5 24 63 HT_ (fun K hK=>?_)
  refine gq Try.func35 #[.slice e2 d1.length e3] ?_
  with_reducible refine (numnahlaw07_list.calls _ _ d1 b4 _ ?side1 ?side2 A7.out).mono ?_
  (case side1=>exact cB j5 HB)
  (case side2=>exact j7.out)
  rintro e z5 ⟨p9,rfl,e4,hb⟩
  refine ⟨_,rfl,?_⟩
  have d0:=A_ (Kd.R_lower (Kd.R_new' e4 (Kd.R_lt (rs b3))) (below_size (bl HB)))
  replace b3:=A_ (Kd.R_elder' (rs b3) (Kd.R_base e4) hb)
  replace b5:=A_ (Kd.S_elder' (by (with_reducible repeat (first | apply Kd.S_alloc | apply Kd.S_drewN | apply Kd.S_drew));exact b5.out) (Kd.R_base e4) hb)
  replace b8:=rB b8 hb
  replace b1:=kB b1 hb
  replace HB:=bB HB hb
  (try clear hb)
  refine hz hK (fun hHeld=>?_)
  clear hK K
  refine nq 24 ?_
  refine pq 6 9 127 HT_ ?_
  refine pq 7 10 255 HT_ ?_
  refine done_ (done_of HT_.out (by kernel_rfl)) ?_
  obtain ⟨n4,n5,q0⟩:=Kd.R_slice b3.out
  subst q0
  obtain ⟨n6,n7,q1⟩:=Kd.S_slice b5.out
  subst q1
  obtain ⟨q2,q3,q4⟩:=Kd.R_slice b8.out
  subst q4
  obtain ⟨q5,q6,q7⟩:=Kd.R_slice d0.out
  subst q7
  try go_wp2_with (first | ((with_reducible refine gate_callee (f:=40) rfl ?_);refine gL (some 29) Try.func40 #[.slice n4 b2.length n5,.slice n6 b0.length n7,.slice q2 b9.length q3,.slice q5 b4.length q6] ?_;(with_reducible refine (shares_Check.calls k _ _ b2 _ _ b0 _ _ b9 _ _ b4 b6 _ ?side1 ?side2 ?side3 ?side4 ?side5 ?side6 ?side7 ?side8 A8.out).mono ?_);(case side1=>repeat (first | exact (Kd.R_reads' b3.out).2.2 | (with_reducible refine Kd.C_alloc ?_ _) | (with_reducible refine Kd.C_drewN ?_ _) | (with_reducible refine Kd.C_drew ?_)));(case side2=>exact (Kd.R_reads' b3.out).2.1);(case side3=>repeat (first | exact (Kd.S_reads' b5.out).2.2 | (with_reducible refine Kd.C_alloc ?_ _) | (with_reducible refine Kd.C_drewN ?_ _) | (with_reducible refine Kd.C_drew ?_)));(case side4=>exact (Kd.S_reads' b5.out).2.1);(case side5=>repeat (first | exact (Kd.R_reads' b8.out).2.2 | (with_reducible refine Kd.C_alloc ?_ _) | (with_reducible refine Kd.C_drewN ?_ _) | (with_reducible refine Kd.C_drew ?_)));(case side6=>exact (Kd.R_reads' b8.out).2.1);(case side7=>repeat (first | exact (Kd.R_reads' d0.out).2.2 | (with_reducible refine Kd.C_alloc ?_ _) | (with_reducible refine Kd.C_drewN ?_ _) | (with_reducible refine Kd.C_drew ?_)));(case side8=>exact (Kd.R_reads' d0.out).2.1);rintro e z6 ⟨rfl,hb⟩;refine ⟨_,rfl,?_⟩;replace b3:=rB b3 hb;replace b5:=A_ (Kd.S_below (by (with_reducible repeat (first | apply Kd.S_alloc | apply Kd.S_drewN | apply Kd.S_drew));exact b5.out) hb);replace b8:=rB b8 hb;replace d0:=rB d0 hb;replace b1:=kB b1 hb;replace HB:=bB HB hb;(try clear hb)) | ((with_reducible refine gate_callee (f:=41) rfl ?_);refine gL (some 32) Try.func41 #[.slice n4 b2.length n5,.slice n6 b0.length n7] ?_;(with_reducible refine (numnahref07_Users.calls k _ _ b2 _ _ b0 false _ ?side1 ?side2 ?side3 ?side4 A9.out).mono ?_);(case side1=>repeat (first | exact (Kd.R_reads' b3.out).2.2 | (with_reducible refine Kd.C_alloc ?_ _) | (with_reducible refine Kd.C_drewN ?_ _) | (with_reducible refine Kd.C_drew ?_)));(case side2=>exact (Kd.R_reads' b3.out).2.1);(case side3=>repeat (first | exact (Kd.S_reads' b5.out).2.2 | (with_reducible refine Kd.C_alloc ?_ _) | (with_reducible refine Kd.C_drewN ?_ _) | (with_reducible refine Kd.C_drew ?_)));(case side4=>exact (Kd.S_reads' b5.out).2.1);rintro e w' ⟨rfl,⟨nd,rfl⟩⟩;refine ⟨_,rfl,?_⟩) | (go_at_call 22;(with_reducible refine (numnahlaw07_awake.calls k  d5 _ x3.out).mono ?_);rintro e z7 ⟨rfl,hb⟩;replace b3:=rB b3 hb;replace b5:=A_ (Kd.S_below (by (with_reducible repeat (first | apply Kd.S_alloc | apply Kd.S_drewN | apply Kd.S_drew));exact b5.out) hb);replace b8:=rB b8 hb;replace d0:=rB d0 hb;replace b1:=kB b1 hb;replace HB:=bB HB hb;(try clear hb)))
  go_ret
  exact ⟨by first | rfl | (simp [errW_none,errW_some] <;> rfl) | (simp [*,errW_none,errW_some] <;> rfl),bl HB⟩
 subst c10
 rw [if_pos rfl] at H
 replace H:=Option.bind_eq_some_iff.mp H
 obtain ⟨b7,n8,H⟩:=H
 replace H:((numnahref07_Same.f k b9 b7).bind fun d3=>(if d3 = true then (numnahlaw07_SharesChecks.j0 k b2 b0 b4 b6 b7 ((b4.length:Int) == (b0.length:Int))) else (numnahlaw07_SharesChecks.j0 k b2 b0 b4 b6 b7 false))) = some r:=H
 have x5:=A_ n8
 clear n8
 have l5:=A_ H
 clear H
 go_enter Try.func10,Try.ntmps10
 try go_wp2_with (first | ((with_reducible refine gate_dst (N:=5) rfl ?_);(try (refine gate_guard (by rfl) ?_;dsimp only));refine bx 5 #[.slice e0 d2.length e1,.slice e2 d1.length e3] 58 ?_;intro d7 hg z8 hbox hb;have b1:=A_ hbox;have h9:=gw hg HB;have n3:=h9;replace HB:=bB HB hb;clear hb hbox hg) | ((with_reducible refine gate_callee (f:=35) rfl ?_);refine gL (some 16) Try.func35 #[.slice A0 l0.length c0] ?_;(with_reducible refine (numnahlaw07_list.calls _ _ l0 b2 _ ?side1 ?side2 A4.out).mono ?_);(case side1=>exact cB s6 HB);(case side2=>exact s7.out);rintro e z9 ⟨p6,rfl,e4,hb⟩;refine ⟨_,rfl,?_⟩;have b3:=A_ (Kd.R_lower e4 (below_size (bl HB)));replace b1:=kB b1 hb;replace HB:=bB HB hb;(try clear hb)) | ((with_reducible refine gate_callee (f:=39) rfl ?_);refine gL (some 18) Try.func39 #[.slice A1 l1.length c1] ?_;(with_reducible refine (numnahlaw07_group.calls k _ _ l1 b0 _ ?side1 ?side2 A5.out).mono ?_);(case side1=>exact cB s8 HB);(case side2=>exact s9.out);rintro e x6 ⟨p7,rfl,e4,hb⟩;refine ⟨_,rfl,?_⟩;have b5:=A_ (Kd.S_lower (Kd.S_new' e4 (Kd.R_lt (rs b3))) (below_size (bl HB)));replace b3:=rB b3 hb;replace b1:=kB b1 hb;replace HB:=bB HB hb;(try clear hb)))
 replace b3:=rD b3
 replace b5:=A_ (Kd.S_drew b5.out)
 replace b1:=kD b1
 replace HB:=bD HB
 refine st 8 (fun w'=>w'.cell? ⟨d7,0,none⟩ = some (.slice e0 d2.length e1) ∧ w'.cell? ⟨d7,1,none⟩ = some (.slice e2 d1.length e3)) [] numnahlaw07_SharesChecks.tab2 numnahlaw07_SharesChecks.bits2 (fun hHeld HT_ HW_=>?_)
 generalize x6.drew = A2 at b3 b5 b1 HB hHeld ⊢
 refine pq 0 19 1 HT_ ?_
 refine pq 3 22 9 HT_ ?_
 refine tq 1 20 11 HT_ HW_ hHeld ?_
 refine tq 4 23 27 HT_ HW_ hHeld ?_
 refine oq 2 21 31 HT_ (fun K hK=>?_)
 refine gq Try.func36 #[.slice e0 d2.length e1] ?_
 with_reducible refine (numnahlaw07_fracs.calls _ _ d2 b9 _ ?side1 ?side2 A6.out).mono ?_
 (case side1=>exact cB i8 HB)
 (case side2=>exact i9.out)
 rintro e A3 ⟨p8,rfl,e4,hb⟩
 refine ⟨_,rfl,?_⟩
 have b8:=A_ (Kd.R_lower e4 (below_size (bl HB)))
 replace b3:=rB b3 hb
 replace b5:=A_ (Kd.S_below (by (with_reducible repeat (first | apply Kd.S_alloc | apply Kd.S_drewN | apply Kd.S_drew));exact b5.out) hb)
 replace b1:=kB b1 hb
 replace HB:=bB HB hb
 (try clear hb)
 refine hz hK (fun hHeld=>?_)
 clear hK K
 refine nq 21 ?_
 refine oq 5 24 63 HT_ (fun K hK=>?_)
 refine gq Try.func35 #[.slice e2 d1.length e3] ?_
 with_reducible refine (numnahlaw07_list.calls _ _ d1 b4 _ ?side1 ?side2 A7.out).mono ?_
 (case side1=>exact cB j5 HB)
 (case side2=>exact j7.out)
 rintro e B0 ⟨p9,rfl,e4,hb⟩
 refine ⟨_,rfl,?_⟩
 have d0:=A_ (Kd.R_lower (Kd.R_new' e4 (Kd.R_lt (rs b3))) (below_size (bl HB)))
 replace b3:=A_ (Kd.R_elder' (rs b3) (Kd.R_base e4) hb)
 replace b5:=A_ (Kd.S_elder' (by (with_reducible repeat (first | apply Kd.S_alloc | apply Kd.S_drewN | apply Kd.S_drew));exact b5.out) (Kd.R_base e4) hb)
 replace b8:=rB b8 hb
 replace b1:=kB b1 hb
 replace HB:=bB HB hb
 (try clear hb)
 refine hz hK (fun hHeld=>?_)
 clear hK K
 refine nq 24 ?_
 refine pq 6 9 127 HT_ ?_
 refine pq 7 10 255 HT_ ?_
 refine done_ (done_of HT_.out (by kernel_rfl)) ?_
 obtain ⟨e5,e6,q8⟩:=Kd.R_slice b3.out
 subst q8
 obtain ⟨h6,h7,q9⟩:=Kd.S_slice b5.out
 subst q9
 obtain ⟨l6,l7,r0⟩:=Kd.R_slice b8.out
 subst r0
 obtain ⟨h2,h3,r1⟩:=Kd.R_slice d0.out
 subst r1
 go_upto_region 7 with (first | ((with_reducible refine gate_callee (f:=40) rfl ?_);refine gL (some 29) Try.func40 #[.slice e5 b2.length e6,.slice h6 b0.length h7,.slice l6 b9.length l7,.slice h2 b4.length h3] ?_;(with_reducible refine (shares_Check.calls k _ _ b2 _ _ b0 _ _ b9 _ _ b4 b6 _ ?side1 ?side2 ?side3 ?side4 ?side5 ?side6 ?side7 ?side8 A8.out).mono ?_);(case side1=>repeat (first | exact (Kd.R_reads' b3.out).2.2 | (with_reducible refine Kd.C_alloc ?_ _) | (with_reducible refine Kd.C_drewN ?_ _) | (with_reducible refine Kd.C_drew ?_)));(case side2=>exact (Kd.R_reads' b3.out).2.1);(case side3=>repeat (first | exact (Kd.S_reads' b5.out).2.2 | (with_reducible refine Kd.C_alloc ?_ _) | (with_reducible refine Kd.C_drewN ?_ _) | (with_reducible refine Kd.C_drew ?_)));(case side4=>exact (Kd.S_reads' b5.out).2.1);(case side5=>repeat (first | exact (Kd.R_reads' b8.out).2.2 | (with_reducible refine Kd.C_alloc ?_ _) | (with_reducible refine Kd.C_drewN ?_ _) | (with_reducible refine Kd.C_drew ?_)));(case side6=>exact (Kd.R_reads' b8.out).2.1);(case side7=>repeat (first | exact (Kd.R_reads' d0.out).2.2 | (with_reducible refine Kd.C_alloc ?_ _) | (with_reducible refine Kd.C_drewN ?_ _) | (with_reducible refine Kd.C_drew ?_)));(case side8=>exact (Kd.R_reads' d0.out).2.1);rintro e C0 ⟨rfl,hb⟩;refine ⟨_,rfl,?_⟩;replace b3:=rB b3 hb;replace b5:=A_ (Kd.S_below (by (with_reducible repeat (first | apply Kd.S_alloc | apply Kd.S_drewN | apply Kd.S_drew));exact b5.out) hb);replace b8:=rB b8 hb;replace d0:=rB d0 hb;replace b1:=kB b1 hb;replace HB:=bB HB hb;(try clear hb)) | ((with_reducible refine gate_callee (f:=41) rfl ?_);refine gL (some 32) Try.func41 #[.slice e5 b2.length e6,.slice h6 b0.length h7] ?_;(with_reducible refine (numnahref07_Users.calls k _ _ b2 _ _ b0 true _ ?side1 ?side2 ?side3 ?side4 A9.out).mono ?_);(case side1=>repeat (first | exact (Kd.R_reads' b3.out).2.2 | (with_reducible refine Kd.C_alloc ?_ _) | (with_reducible refine Kd.C_drewN ?_ _) | (with_reducible refine Kd.C_drew ?_)));(case side2=>exact (Kd.R_reads' b3.out).2.1);(case side3=>repeat (first | exact (Kd.S_reads' b5.out).2.2 | (with_reducible refine Kd.C_alloc ?_ _) | (with_reducible refine Kd.C_drewN ?_ _) | (with_reducible refine Kd.C_drew ?_)));(case side4=>exact (Kd.S_reads' b5.out).2.1);rintro e w' ⟨rfl,⟨nd,rfl⟩⟩;refine ⟨_,rfl,?_⟩) | ((with_reducible refine gate_callee (f:=42) rfl ?_);refine gL (some 41) Try.func42 #[.slice e5 b2.length e6,.slice h6 b0.length h7] ?_;(with_reducible refine (numnahref07_Fair.calls k _ _ b2 _ _ b0 b7 _ ?side1 ?side2 ?side3 ?side4 x5.out).mono ?_);(case side1=>repeat (first | exact (Kd.R_reads' b3.out).2.2 | (with_reducible refine Kd.C_alloc ?_ _) | (with_reducible refine Kd.C_drewN ?_ _) | (with_reducible refine Kd.C_drew ?_)));(case side2=>exact (Kd.R_reads' b3.out).2.1);(case side3=>repeat (first | exact (Kd.S_reads' b5.out).2.2 | (with_reducible refine Kd.C_alloc ?_ _) | (with_reducible refine Kd.C_drewN ?_ _) | (with_reducible refine Kd.C_drew ?_)));(case side4=>exact (Kd.S_reads' b5.out).2.1);rintro e C1 ⟨n9,rfl,e4,hb⟩;refine ⟨_,rfl,?_⟩;have d8:=A_ (Kd.R_lower (Kd.R_new' e4 (Kd.R_lt (rs b8))) (below_size (bl HB)));replace b3:=rB b3 hb;replace b5:=A_ (Kd.S_below (by (with_reducible repeat (first | apply Kd.S_alloc | apply Kd.S_drewN | apply Kd.S_drew));exact b5.out) hb);replace b8:=A_ (Kd.R_elder' (rs b8) (Kd.R_base e4) hb);replace d0:=rB d0 hb;replace b1:=kB b1 hb;replace HB:=bB HB hb;(try clear hb)))
 (try simp only [Act.put,List.setIfInBounds_toArray,List.set_cons_zero,List.set_cons_succ])
 go_cut [13] (fun o0 wc=>∃ (kq:Nat) (e8:Bool),o0 = .bool e8 ∧ Aside0 (numnahlaw07_SharesChecks.j0 kq b2 b0 b4 b6 b7 e8 = some r) ∧ Aside0 (kq ≤ k) ∧ Aside0 (Kd.R (Kd.int .i64) 3 wc w.heap.size (fun k_=>some k_ ≠ ((.slice h2 b4.length h3):Value).ownBlock) (.slice e5 b2.length e6) b2) ∧ Aside0 (Kd.S k45 45 wc w.heap.size (fun k_=>some k_ ≠ ((.slice e5 b2.length e6):Value).ownBlock ∧ some k_ ≠ ((.slice h2 b4.length h3):Value).ownBlock) (.slice h6 b0.length h7) b0) ∧ Aside0 (Kd.R (Kd.int .i64) 3 wc w.heap.size (fun k_=>some k_ ≠ ((.slice e5 b2.length e6):Value).ownBlock) (.slice h2 b4.length h3) b4) ∧ Aside0 (Kd.R k23 23 wc w.heap.size (fun _=>True) n9 b7) ∧ Aside0 (wc.heap[d7]? = some (.cells #[(.slice e0 d2.length e1),(.slice e2 d1.length e3)] 58 (0,0))) ∧ Aside0 (Below w.heap.size w wc))
 case first =>
  have H:=l5.out
  clear l5
  replace H:=Option.bind_eq_some_iff.mp H
  obtain ⟨d3,o1,H⟩:=H
  replace H:(if d3 = true then (numnahlaw07_SharesChecks.j0 k b2 b0 b4 b6 b7 ((b4.length:Int) == (b0.length:Int))) else (numnahlaw07_SharesChecks.j0 k b2 b0 b4 b6 b7 false)) = some r:=H
  have t6:=A_ o1
  clear o1
  by_cases p1:d3 = true
  ·subst p1
   rw [if_pos rfl] at H
   have H':=A_ H
   clear H
   obtain ⟨r2,r3,r4⟩:=Kd.R_slice d8.out
   subst r4
   go_wp2_with (first | ((with_reducible refine gate_callee (f:=33) rfl ?_);refine gL (some 44) Try.func33 #[.slice l6 b9.length l7,.slice r2 b7.length r3] ?_;(with_reducible refine (numnahref07_Same.calls k _ _ b9 _ _ b7 true _ ?side1 ?side2 ?side3 ?side4 t6.out).mono ?_);(case side1=>repeat (first | exact (Kd.R_reads' b8.out).2.2 | (with_reducible refine Kd.C_alloc ?_ _) | (with_reducible refine Kd.C_drewN ?_ _) | (with_reducible refine Kd.C_drew ?_)));(case side2=>exact (Kd.R_reads' b8.out).2.1);(case side3=>repeat (first | exact (Kd.R_reads' d8.out).2.2 | (with_reducible refine Kd.C_alloc ?_ _) | (with_reducible refine Kd.C_drewN ?_ _) | (with_reducible refine Kd.C_drew ?_)));(case side4=>exact (Kd.R_reads' d8.out).2.1);rintro e w' ⟨rfl,⟨nd,rfl⟩⟩;refine ⟨_,rfl,?_⟩))
   go_meet
   case rel=>exact ⟨_,(((b4.length:Int) == (b0.length:Int))),(by first | rfl | (simp;done) | (simp [*];done)),H',⟨by first | omega | exact Nat.le_refl _⟩,⟨by (with_reducible repeat (first | apply Kd.R_alloc | apply Kd.R_drewN | apply Kd.R_drew));exact Kd.R_mono b3.out (fun _ hk=>hk.2)⟩,⟨by (with_reducible repeat (first | apply Kd.S_alloc | apply Kd.S_drewN | apply Kd.S_drew));exact Kd.S_mono b5.out (fun _ hk=>⟨hk.1.2,hk.2⟩)⟩,⟨by (with_reducible repeat (first | apply Kd.R_alloc | apply Kd.R_drewN | apply Kd.R_drew));exact Kd.R_mono d0.out (fun _ hk=>hk.2)⟩,⟨by (with_reducible repeat (first | apply Kd.R_alloc | apply Kd.R_drewN | apply Kd.R_drew));exact Kd.R_mono d8.out (fun _ hk=>trivial)⟩,⟨by (with_reducible repeat (first | refine blk_drewN ?_ _ | refine blk_drew ?_ | refine blk_alloc ?_ _));exact b1.out⟩,⟨bl HB⟩⟩
  replace p1:=Bool.eq_false_iff.mpr p1
  subst p1
  rw [if_neg (show ¬ (false = true) by decide)] at H
  have H':=A_ H
  clear H
  obtain ⟨r5,r6,r7⟩:=Kd.R_slice d8.out
  subst r7
  go_wp2_with (first | ((with_reducible refine gate_callee (f:=33) rfl ?_);refine gL (some 44) Try.func33 #[.slice l6 b9.length l7,.slice r5 b7.length r6] ?_;(with_reducible refine (numnahref07_Same.calls k _ _ b9 _ _ b7 false _ ?side1 ?side2 ?side3 ?side4 t6.out).mono ?_);(case side1=>repeat (first | exact (Kd.R_reads' b8.out).2.2 | (with_reducible refine Kd.C_alloc ?_ _) | (with_reducible refine Kd.C_drewN ?_ _) | (with_reducible refine Kd.C_drew ?_)));(case side2=>exact (Kd.R_reads' b8.out).2.1);(case side3=>repeat (first | exact (Kd.R_reads' d8.out).2.2 | (with_reducible refine Kd.C_alloc ?_ _) | (with_reducible refine Kd.C_drewN ?_ _) | (with_reducible refine Kd.C_drew ?_)));(case side4=>exact (Kd.R_reads' d8.out).2.1);rintro e w' ⟨rfl,⟨nd,rfl⟩⟩;refine ⟨_,rfl,?_⟩))
  go_meet
  case rel=>exact ⟨_,(false),(by first | rfl | (simp;done) | (simp [*];done)),H',⟨by first | omega | exact Nat.le_refl _⟩,⟨by (with_reducible repeat (first | apply Kd.R_alloc | apply Kd.R_drewN | apply Kd.R_drew));exact Kd.R_mono b3.out (fun _ hk=>hk.2)⟩,⟨by (with_reducible repeat (first | apply Kd.S_alloc | apply Kd.S_drewN | apply Kd.S_drew));exact Kd.S_mono b5.out (fun _ hk=>⟨hk.1.2,hk.2⟩)⟩,⟨by (with_reducible repeat (first | apply Kd.R_alloc | apply Kd.R_drewN | apply Kd.R_drew));exact Kd.R_mono d0.out (fun _ hk=>hk.2)⟩,⟨by (with_reducible repeat (first | apply Kd.R_alloc | apply Kd.R_drewN | apply Kd.R_drew));exact Kd.R_mono d8.out (fun _ hk=>trivial)⟩,⟨by (with_reducible repeat (first | refine blk_drewN ?_ _ | refine blk_drew ?_ | refine blk_alloc ?_ _));exact b1.out⟩,⟨bl HB⟩⟩
 case rest =>
  clear l5
  obtain ⟨kq,e8,rfl,HA,i2,h4,h5,e7,d9,b1,HB⟩:=hcut
  cases kq with
  | zero=>exact absurd HA.out (by simp [numnahlaw07_SharesChecks.j0])
  | succ l8 =>
   have H:=HA.out
   clear HA
   simp only [numnahlaw07_SharesChecks.j0] at H
   have l9:=A_ H
   clear H
   go_upto_block 0 with (fail)
   go_cut [13] (fun o0 wc=>∃ (kq:Nat) (e9:Bool),o0 = .bool e9 ∧ Aside0 (numnahlaw07_SharesChecks.j2 kq b6 e9 = some r) ∧ Aside0 (kq ≤ l8) ∧ Aside0 (wc.heap[d7]? = some (.cells #[(.slice e0 d2.length e1),(.slice e2 d1.length e3)] 58 (0,0))) ∧ Aside0 (Below w.heap.size w wc))
   case first =>
    have H:=l9.out
    clear l9
    have H':=A_ H
    clear H
    go_wp2
    go_loopg [13,14] l8 (fun kq o0 x9 w'=>∃ (h0:Bool) (d4:Int),o0 = .bool h0 ∧ x9 = .int .i64 d4 ∧ Aside0 (numnahlaw07_SharesChecks.l0 kq b2 b0 b4 b6 b7 h0 d4 = some r) ∧ Aside0 (kq ≤ l8) ∧ Aside0 (Kd.R (Kd.int .i64) 3 w' w.heap.size (fun k_=>some k_ ≠ ((.slice h2 b4.length h3):Value).ownBlock) (.slice e5 b2.length e6) b2) ∧ Aside0 (Kd.S k45 45 w' w.heap.size (fun k_=>some k_ ≠ ((.slice e5 b2.length e6):Value).ownBlock ∧ some k_ ≠ ((.slice h2 b4.length h3):Value).ownBlock) (.slice h6 b0.length h7) b0) ∧ Aside0 (Kd.R (Kd.int .i64) 3 w' w.heap.size (fun k_=>some k_ ≠ ((.slice e5 b2.length e6):Value).ownBlock) (.slice h2 b4.length h3) b4) ∧ Aside0 (Kd.R k23 23 w' w.heap.size (fun _=>True) n9 b7) ∧ Aside0 (w'.heap[d7]? = some (.cells #[(.slice e0 d2.length e1),(.slice e2 d1.length e3)] 58 (0,0))) ∧ Aside0 (Below w.heap.size w w'))
    case atStart=>exact ⟨(e8),(0),(by first | rfl | (simp;done) | (simp [*];done)),(by first | rfl | (simp;done) | (simp [*];done)),H',⟨Nat.le_refl _⟩,⟨by (with_reducible repeat (first | apply Kd.R_alloc | apply Kd.R_drewN | apply Kd.R_drew));exact h4.out⟩,⟨by (with_reducible repeat (first | apply Kd.S_alloc | apply Kd.S_drewN | apply Kd.S_drew));exact h5.out⟩,⟨by (with_reducible repeat (first | apply Kd.R_alloc | apply Kd.R_drewN | apply Kd.R_drew));exact e7.out⟩,⟨by (with_reducible repeat (first | apply Kd.R_alloc | apply Kd.R_drewN | apply Kd.R_drew));exact d9.out⟩,⟨by (with_reducible repeat (first | refine blk_drewN ?_ _ | refine blk_drew ?_ | refine blk_alloc ?_ _));exact b1.out⟩,⟨bl HB⟩⟩
    case round =>
     clear H'
     obtain ⟨h0,d4,rfl,rfl,HA,p2,h4,h5,e7,d9,b1,HB⟩:=hrel
     cases gk with
     | zero=>exact absurd HA.out (by simp [numnahlaw07_SharesChecks.l0])
     | succ k2 =>
      have H:=HA.out
      clear HA
      simp only [numnahlaw07_SharesChecks.l0] at H
      by_cases m5:d4 < (b0.length:Int)
      case neg =>
       rw [if_neg m5] at H
       have h1:=decide_eq_false m5
       clear m5
       (first | rw [h1] | (simp only [i64_w,i32_w];rw [h1]) | skip)
       have H':=A_ H
       clear H
       go_wp2
       go_meet
       case rel=>exact ⟨_,(h0),(by first | rfl | (simp;done) | (simp [*];done)),H',⟨by have:=i2.out;have:=p2.out;first | omega | exact Nat.le_refl _⟩,⟨by (with_reducible repeat (first | refine blk_drewN ?_ _ | refine blk_drew ?_ | refine blk_alloc ?_ _));exact b1.out⟩,⟨bl HB⟩⟩
      rw [if_pos m5] at H
      have h1:=decide_eq_true m5
      clear m5
      (first | rw [h1] | (simp only [i64_w,i32_w];rw [h1]) | skip)
      by_cases p3:h0 = true
      case neg =>
       replace p3:=Bool.eq_false_iff.mpr p3
       subst p3
       rw [if_neg (show ¬ (false = true) by decide)] at H
       have H':=A_ H
       clear H
       go_wp2
       go_meet
       case rel=>exact ⟨_,(false),(by first | rfl | (simp;done) | (simp [*];done)),H',⟨by have:=i2.out;have:=p2.out;first | omega | exact Nat.le_refl _⟩,⟨by (with_reducible repeat (first | refine blk_drewN ?_ _ | refine blk_drew ?_ | refine blk_alloc ?_ _));exact b1.out⟩,⟨bl HB⟩⟩
      subst p3
      rw [if_pos rfl] at H
      replace H:=gd H
      obtain ⟨t7,H⟩:=H
      have t8:=decide_eq_true t7
      clear t7
      replace H:=gd H
      obtain ⟨t9,H⟩:=H
      have x0:=decide_eq_true t9
      clear t9
      replace H:=Option.bind_eq_some_iff.mp H
      obtain ⟨h8,o2,H⟩:=H
      replace H:(numnahlaw07_SharesChecks.l0 k2 b2 b0 b4 b6 b7 h8 (wrap64 (d4 + 1))) = some r:=H
      have y7:=A_ o2
      clear o2
      have H':=A_ H
      clear H
      have m0:0 ≤ (d4:Int):=of_decide_eq_true (by first | (with_reducible assumption) | assumption)
      have m1:d4 < (b4.length:Int):=of_decide_eq_true (by first | (with_reducible assumption) | assumption)
      obtain ⟨x1,r8,p4⟩:=Kd.at_int (Kd.R_reads' e7.out).2.2 d4 m0 m1
      cases r8
      replace m0:=eq_true m0
      replace m1:=eq_true m1
      obtain ⟨r9,s0,s1⟩:=Kd.R_slice d9.out
      subst s1
      go_wp2_with (first | ((with_reducible refine gate_callee (f:=43) rfl ?_);refine gL (some 69) Try.func43 #[.slice e5 b2.length e6,.slice h6 b0.length h7,.slice r9 b7.length s0,.int .i64 (rd b4 d4),.int .i64 d4] ?_;(with_reducible refine (numnahref07_Holds.calls k2 _ _ b2 _ _ b0 _ _ b7 (rd b4 d4) d4 h8 _ ?side1 ?side2 ?side3 ?side4 ?side5 ?side6 y7.out).mono ?_);(case side1=>repeat (first | exact (Kd.R_reads' h4.out).2.2 | (with_reducible refine Kd.C_alloc ?_ _) | (with_reducible refine Kd.C_drewN ?_ _) | (with_reducible refine Kd.C_drew ?_)));(case side2=>exact (Kd.R_reads' h4.out).2.1);(case side3=>repeat (first | exact (Kd.S_reads' h5.out).2.2 | (with_reducible refine Kd.C_alloc ?_ _) | (with_reducible refine Kd.C_drewN ?_ _) | (with_reducible refine Kd.C_drew ?_)));(case side4=>exact (Kd.S_reads' h5.out).2.1);(case side5=>repeat (first | exact (Kd.R_reads' d9.out).2.2 | (with_reducible refine Kd.C_alloc ?_ _) | (with_reducible refine Kd.C_drewN ?_ _) | (with_reducible refine Kd.C_drew ?_)));(case side6=>exact (Kd.R_reads' d9.out).2.1);rintro e C2 ⟨rfl,hb⟩;refine ⟨_,rfl,?_⟩;replace h4:=rB h4 hb;replace h5:=A_ (Kd.S_below (by (with_reducible repeat (first | apply Kd.S_alloc | apply Kd.S_drewN | apply Kd.S_drew));exact h5.out) hb);replace e7:=rB e7 hb;replace d9:=rB d9 hb;replace b1:=kB b1 hb;replace HB:=bB HB hb;(try clear hb)))
      go_roundg k2
      case measure=>have:=i2.out;have:=p2.out;omega
      case rel=>exact ⟨(h8),(wrap64 (d4 + 1)),(by first | rfl | (simp;done) | (simp [*];done)),(by first | rfl | (simp;done) | (simp [*];done)),H',⟨by have:=i2.out;have:=p2.out;omega⟩,⟨by (with_reducible repeat (first | apply Kd.R_alloc | apply Kd.R_drewN | apply Kd.R_drew));exact h4.out⟩,⟨by (with_reducible repeat (first | apply Kd.S_alloc | apply Kd.S_drewN | apply Kd.S_drew));exact h5.out⟩,⟨by (with_reducible repeat (first | apply Kd.R_alloc | apply Kd.R_drewN | apply Kd.R_drew));exact e7.out⟩,⟨by (with_reducible repeat (first | apply Kd.R_alloc | apply Kd.R_drewN | apply Kd.R_drew));exact d9.out⟩,⟨by (with_reducible repeat (first | refine blk_drewN ?_ _ | refine blk_drew ?_ | refine blk_alloc ?_ _));exact b1.out⟩,⟨bl HB⟩⟩
   case rest =>
    clear l9
    obtain ⟨kq,e9,rfl,HA,y8,b1,HB⟩:=hcut
    cases kq with
    | zero=>exact absurd HA.out (by simp [numnahlaw07_SharesChecks.j2])
    | succ o3 =>
     have H:=HA.out
     clear HA
     simp only [numnahlaw07_SharesChecks.j2] at H
     by_cases p5:e9 = true
     ·subst p5
      rw [if_pos rfl] at H
      by_cases m2:b6 = 0
      case neg =>
       rw [if_neg m2] at H
       have o4:(b6 == 0) = false:=beq_eq_false_iff_ne.mpr m2
       have o5:(b6 != 0) = true:=bne_iff_ne.mpr m2
       exact absurd ((Option.some.inj H).trans HRT.out) (by decide)
      rw [if_pos m2] at H
      have o4:(b6 == 0) = true:=beq_iff_eq.mpr m2
      have o5:(b6 != 0) = false:=bne_eq_false_iff_eq.mpr m2
      clear m2
      replace H:=Option.bind_eq_some_iff.mp H
      obtain ⟨i0,o6,H⟩:=H
      replace H:(some i0) = some r:=H
      have y9:=A_ o6
      clear o6
      obtain rfl:=Option.some.inj H
      go_wp2_with (first | (go_at_call 22;(with_reducible refine (numnahlaw07_awake.calls o3  i0 _ y9.out).mono ?_);rintro e C3 ⟨rfl,hb⟩;replace b1:=kB b1 hb;replace HB:=bB HB hb;(try clear hb)))
      go_ret
      exact ⟨by first | rfl | (simp [errW_none,errW_some] <;> rfl) | (simp [*,errW_none,errW_some] <;> rfl),bl HB⟩
     replace p5:=Bool.eq_false_iff.mpr p5
     subst p5
     rw [if_neg (show ¬ (false = true) by decide)] at H
     by_cases m3:b6 = 10
     case neg =>
      rw [if_neg m3] at H
      have o7:(b6 == 10) = false:=beq_eq_false_iff_ne.mpr m3
      have o8:(b6 != 10) = true:=bne_iff_ne.mpr m3
      exact absurd ((Option.some.inj H).trans HRT.out) (by decide)
     rw [if_pos m3] at H
     have o7:(b6 == 10) = true:=beq_iff_eq.mpr m3
     have o8:(b6 != 10) = false:=bne_eq_false_iff_eq.mpr m3
     clear m3
     replace H:=Option.bind_eq_some_iff.mp H
     obtain ⟨i1,o9,H⟩:=H
     replace H:(some i1) = some r:=H
     have z0:=A_ o9
     clear o9
     obtain rfl:=Option.some.inj H
     go_wp2_with (first | (go_at_call 22;(with_reducible refine (numnahlaw07_awake.calls o3  i1 _ z0.out).mono ?_);rintro e C4 ⟨rfl,hb⟩;replace b1:=kB b1 hb;replace HB:=bB HB hb;(try clear hb)))
     go_ret
     exact ⟨by first | rfl | (simp [errW_none,errW_some] <;> rfl) | (simp [*,errW_none,errW_some] <;> rfl),bl HB⟩
end Go.Proofs.Ytjohcjfmlhihbaa.G
set_option linter.unusedSectionVars false
namespace Go.Proofs.Ytjohcjfmlhihbaa.P
open Go Go.RowKit Go.Proofs.Ytjohcjfmlhihbaa.G
open Go.Proofs.YtjohcjfmlhihbaaW.PrintWords Go.Proofs.YtjohcjfmlhihbaaW.PrintMore
def hI (p:List Int) (u:List S45) (x:List Rat) (h:List Int) (i:Nat):Bool:=decide (0 ≤ rd h (i:Int)) && holdsB (netOf p u) (rt x) (rd h (i:Int)).toNat i
section
variable {p:List Int} {u:List S45} (hN:IsN p u) {x:List Rat} (hx:OkR p u x) {h:List Int} (hh:h.length = u.length)
include hN hx hh
theorem check_l0:∀ d i,i + d = u.length → Ev (fun k=>shares_Check.l0 k (encL x) h (h.length:Int) (i:Int) p u) (if allF (hI p u x h) d i = true then 0 else 10):=by
 intro d
 have h6:=hN.u6
 induction d with
 | zero =>
  intro i hi
  rw [allF,if_pos rfl]
  refine Ev.step (f:=fun _=>some 0) (fun k=>?_) (Ev.now _)
  rw [shares_Check.l0,if_neg (by omega)]
 | succ d ih =>
  intro i hi
  have hil:i < u.length:=by omega
  rw [allF]
  refine Ev.step (fun k=>by rw [shares_Check.l0,if_pos (by omega),if_pos (by omega),if_pos (by omega),wrap_succ (by omega)]) (Ev.bind (ev_holds hN hx (rd h (i:Int)) hil) ?_)
  by_cases hc:hI p u x h i = true
  ·rw [hc,Bool.true_and]
   exact Ev.congr (fun k=>if_pos hc) (ih (i + 1) (by omega))
  ·have hc':hI p u x h i = false:=by simpa using hc
   rw [hc',Bool.false_and,if_neg (by decide)]
   exact Ev.congr (fun k=>if_neg hc) (Ev.now _)
end
theorem checks_j2 {e:Int} {b:Bool} (he:e = if b = true then 0 else 10):Ev (fun k=>numnahlaw07_SharesChecks.j2 k e b) true:=by
 refine Ev.step (f:=fun k=>(numnahlaw07_awake.f k).bind fun t=>some t) (fun k=>?_) (Ev.bind ev_awake (Ev.now _))
 rw [numnahlaw07_SharesChecks.j2]
 cases b
 ·rw [if_neg (by decide),if_pos (by rw [he];rfl)]
 ·rw [if_pos rfl,if_pos (by rw [he];rfl)]
section
variable {p:List Int} {u:List S45} (hN:IsN p u) {x:List Rat} (hx:OkR p u x) {h:List Int}
include hN hx
theorem checks_l0 {e:Int}:∀ d i (b:Bool),i + d = u.length → (b = true → h.length = u.length) → (e = if (b && allF (hI p u x h) d i) = true then 0 else 10) → Ev (fun k=>numnahlaw07_SharesChecks.l0 k p u h e (encL x) b (i:Int)) true:=by
 intro d
 have h6:=hN.u6
 induction d with
 | zero =>
  intro i b hi hb he
  rw [allF,Bool.and_true] at he
  refine Ev.step (fun k=>?_) (checks_j2 he)
  rw [numnahlaw07_SharesChecks.l0,if_neg (by omega)]
 | succ d ih =>
  intro i b hi hb he
  have hil:i < u.length:=by omega
  cases b with
  | false =>
   rw [Bool.false_and] at he
   refine Ev.step (fun k=>?_) (checks_j2 he)
   rw [numnahlaw07_SharesChecks.l0,if_pos (by omega),if_neg (by decide)]
  | true =>
   have hl:=hb rfl
   rw [allF,Bool.true_and] at he
   refine Ev.step (fun k=>by rw [numnahlaw07_SharesChecks.l0,if_pos (by omega),if_pos rfl,if_pos (by omega),if_pos (by omega),wrap_succ (by omega)]) (Ev.bind (ev_rholds hN hx (rd h (i:Int)) hil) ?_)
   exact ih (i + 1) (hI p u x h i) (by omega) (fun _=>hl) he
end
theorem checks_pure (p0:List Int) (u0:List S45) (w0:List S23) (h0:List Int):∃ k,numnahlaw07_SharesChecks.f k p0 u0 w0 h0 = some true:=by
 refine Ev.rounds ?_
 unfold numnahlaw07_SharesChecks.f
 simp only [list_f,fracs_f,Option.bind_some]
 obtain ⟨p,hp⟩:∃ p,p0.take 11 = p:=⟨_,rfl⟩
 obtain ⟨h,hh⟩:∃ h,h0.take 11 = h:=⟨_,rfl⟩
 obtain ⟨w,hw⟩:∃ w,w0.take 11 = w:=⟨_,rfl⟩
 have hpl:p.length ≤ 11:=by rw [← hp,List.length_take];omega
 have hwl:w.length ≤ 11:=by rw [← hw,List.length_take];omega
 have hgl:=group_len u0
 refine Ev.bind (ev_group u0) ?_
 obtain ⟨u,hu⟩:∃ u,(u0.take 7).map cutU = u:=⟨_,rfl⟩
 rw [hu] at hgl
 rw [hp,hw,hu,hh]
 have hf:H.fitL p:=by unfold H.fitL;omega
 have e0:=ev_newNet (p:=p) (u:=u) (by omega) (by omega) hf hgl.2
 have e1:=ev_users (p:=p) (u:=u) (by omega) (by omega) hgl.2
 have aw:Ev (fun k=>(numnahlaw07_awake.f k).bind fun t=>some t) true:=Ev.bind ev_awake (Ev.now _)
 by_cases hok:okNet p u = true
 ·rw [hok] at e0 e1
  have hN:=isN hok
  obtain ⟨x,hx,e2,e3⟩:=fair_both hN
  have hxo:=hx.ok hN
  have e4:=ev_slEq (a:=w) (b:=encL x) (by omega)
  have e5:=ev_same (a:=w) (b:=encL x) (by omega)
  have j1:Ev (fun k=>shares_Check.j0 k w h true p u) 10:=by
   refine Ev.step (f:=fun _=>some 10) (fun k=>?_) (Ev.now _)
   rw [shares_Check.j0,if_pos rfl]
  by_cases hwe:w = encL x
  ·subst hwe
   rw [decide_eq_true rfl] at e4 e5
   by_cases hl:h.length = u.length
   ·have a1:Ev (fun k=>shares_Check.f k p u (encL x) h) (if allF (hI p u x h) u.length 0 = true then 0 else 10):=by
     unfold shares_Check.f
     refine Ev.bind e0 (Ev.bind e2 (Ev.bind e4 (Ev.congr (fun k=>if_pos rfl) ?_)))
     refine Ev.step (fun k=>?_) (check_l0 hN hxo hl u.length 0 (by omega))
     rw [shares_Check.j0,if_neg (by rw [hl];simp)];rfl
    refine Ev.bind a1 (Ev.bind e1 (Ev.congr (fun k=>if_pos rfl) (Ev.bind e3 (Ev.bind e5 (Ev.congr (fun k=>if_pos rfl) ?_)))))
    refine Ev.step (fun k=>?_) (checks_l0 hN hxo (h:=h) (e:=if allF (hI p u x h) u.length 0 = true then 0 else 10) u.length 0 true (by omega) (fun _=>hl) (by rw [Bool.true_and]))
    rw [numnahlaw07_SharesChecks.j0,show ((h.length:Int) == (u.length:Int)) = true by rw [hl];simp];rfl
   ·have hne:((h.length:Int) == (u.length:Int)) = false:=by rw [beq_eq_false_iff_ne];omega
    have a1:Ev (fun k=>shares_Check.f k p u (encL x) h) 10:=by
     unfold shares_Check.f
     refine Ev.bind e0 (Ev.bind e2 (Ev.bind e4 (Ev.congr (fun k=>if_pos rfl) ?_)))
     rw [show ((h.length:Int) != (u.length:Int)) = true by simp only [bne,hne];rfl]
     exact j1
    refine Ev.bind a1 (Ev.bind e1 (Ev.congr (fun k=>if_pos rfl) (Ev.bind e3 (Ev.bind e5 (Ev.congr (fun k=>if_pos rfl) ?_)))))
    rw [hne]
    refine Ev.step (fun k=>?_) (checks_l0 hN hxo (h:=h) (e:=10) u.length 0 false (by omega) (fun h=>by cases h) rfl)
    rw [numnahlaw07_SharesChecks.j0];rfl
  ·rw [decide_eq_false hwe] at e4 e5
   have a1:Ev (fun k=>shares_Check.f k p u w h) 10:=by
    unfold shares_Check.f
    exact Ev.bind e0 (Ev.bind e2 (Ev.bind e4 (Ev.congr (fun k=>if_neg (by decide)) j1)))
   refine Ev.bind a1 (Ev.bind e1 (Ev.congr (fun k=>if_pos rfl) (Ev.bind e3 (Ev.bind e5 (Ev.congr (fun k=>if_neg (by decide)) ?_)))))
   refine Ev.step (fun k=>?_) (checks_l0 hN hxo (h:=h) (e:=10) u.length 0 false (by omega) (fun h=>by cases h) rfl)
   rw [numnahlaw07_SharesChecks.j0];rfl
 ·have hok':okNet p u = false:=by simpa using hok
  rw [hok'] at e0 e1
  have a1:Ev (fun k=>shares_Check.f k p u w h) 2:=by
   unfold shares_Check.f
   exact Ev.bind e0 (Ev.now _)
  exact Ev.bind a1 (Ev.bind e1 aw)
end Go.Proofs.Ytjohcjfmlhihbaa.P
