/- Several texts, joined. -/
import Derived.Maps.Keyed
import Derived.Maps.Own
import Derived.Test.YtjohcjfmlhihbaaQE2
set_option linter.unusedVariables false
set_option linter.unusedSimpArgs false
namespace Go.Proofs.Ytjohcjfmlhihbaa.G
open Go.RowKit Go.Proofs.YtjohcjfmlhihbaaW.PrintWords Go.Proofs.YtjohcjfmlhihbaaW.PrintLast Go.Proofs.YtjohcjfmlhihbaaW.PrintMore
set_option maxHeartbeats 8000000
set_option maxRecDepth 100000
attribute [local go_sem] cond_true cond_false fld23_0 fld23_1 fld45_0 fld45_1 fld109_0 fld109_1 fld94_0 fld94_1 max2_int min2_int max_two min_two max_three min_three max_four min_four
mutual
def shares_net_fair.l0:Nat → List Int → List (S45) → List (S23) → List Bool → Option ((List (S23)))
 | 0,_,_,_,_=>none
 | k + 1,i0,h1,i1,h2=>(slices_Contains_bool_bool.f k h2 false).bind fun r2=>(if r2 = true then (shares_net_fair.l1 k (-1) (i0.length:Int) 0 i0 h1 i1 h2 0 0) else (some i1))
def shares_net_fair.l1:Nat → Int → Int → Int → List Int → List (S45) → List (S23) → List Bool → Int → Int → Option ((List (S23)))
 | 0,_,_,_,_,_,_,_,_,_=>none
 | k + 1,x6,A2,r7,i0,h1,i1,h2,j5,j7=>if r7 < A2 then ((shares_net_fair_1.f k r7 i0 h1 h2 i1).bind fun m8=>(if m8.2.2 = true then (if x6 < 0 then (shares_net_fair.l1 k r7 A2 (wrap64 (r7 + 1)) i0 h1 i1 h2 m8.1 m8.2.1) else ((shares_compare.f k m8.1 m8.2.1 j5 j7).bind fun p3=>(if p3 < 0 then (shares_net_fair.l1 k r7 A2 (wrap64 (r7 + 1)) i0 h1 i1 h2 m8.1 m8.2.1) else (shares_net_fair.l1 k x6 A2 (wrap64 (r7 + 1)) i0 h1 i1 h2 j5 j7)))) else (shares_net_fair.l1 k x6 A2 (wrap64 (r7 + 1)) i0 h1 i1 h2 j5 j7))) else (shares_net_fair.l2 k x6 (h1.length:Int) 0 i0 h1 i1 h2 j5 j7)
def shares_net_fair.l2:Nat → Int → Int → Int → List Int → List (S45) → List (S23) → List Bool → Int → Int → Option ((List (S23)))
 | 0,_,_,_,_,_,_,_,_,_=>none
 | k + 1,x6,K6,p4,i0,h1,i1,h2,j5,j7=>if p4 < K6 then (if 0 ≤ p4 then (if p4 < (h2.length:Int) then (if rdOf false h2 p4 = true then (shares_net_fair.l2 k x6 K6 (wrap64 (p4 + 1)) i0 h1 i1 h2 j5 j7) else ((shares_net_has.f k i0 h1 p4 x6).bind fun p5=>(if p5 = true then (if p4 < (h1.length:Int) then ((shares_times.f k j5 j7 ((rd_T45 h1 p4).f0)).bind fun m4=>(if p4 < (i1.length:Int) then (shares_net_fair.l2 k x6 K6 (wrap64 (p4 + 1)) i0 h1 (i1.set (p4:Int).toNat (⟨m4.1,m4.2⟩:S23)) (h2.set (p4:Int).toNat true) j5 j7) else (none))) else (none)) else (shares_net_fair.l2 k x6 K6 (wrap64 (p4 + 1)) i0 h1 i1 h2 j5 j7)))) else (none)) else (none)) else (shares_net_fair.l0 k i0 h1 i1 h2)
end
def shares_net_fair.f (k:Nat) (e5:List Int) (c1:List (S45)):Option ((List (S23))):=if 0 ≤ (c1.length:Int) then (if ((c1.length:Int):Int).toNat ≤ 17592186044416 then (if ((c1.length:Int):Int).toNat ≤ 281474976710656 then (shares_net_fair.l0 k e5 c1 (List.replicate ((c1.length:Int):Int).toNat z23) (List.replicate ((c1.length:Int):Int).toNat false)) else (none)) else (none)) else (none)
theorem shares_net_fair.mono_l:∀ k,(∀ y0 y1 y2 y3,LeO (shares_net_fair.l0 k y0 y1 y2 y3) (shares_net_fair.l0 (k + 1) y0 y1 y2 y3)) ∧ (∀ y0 y1 y2 y3 y4 y5 y6 y7 y8,LeO (shares_net_fair.l1 k y0 y1 y2 y3 y4 y5 y6 y7 y8) (shares_net_fair.l1 (k + 1) y0 y1 y2 y3 y4 y5 y6 y7 y8)) ∧ (∀ y0 y1 y2 y3 y4 y5 y6 y7 y8,LeO (shares_net_fair.l2 k y0 y1 y2 y3 y4 y5 y6 y7 y8) (shares_net_fair.l2 (k + 1) y0 y1 y2 y3 y4 y5 y6 y7 y8))
 | 0=>⟨fun _ _ _ _ r h=>by simp [shares_net_fair.l0] at h,fun _ _ _ _ _ _ _ _ _ r h=>by simp [shares_net_fair.l1] at h,fun _ _ _ _ _ _ _ _ _ r h=>by simp [shares_net_fair.l2] at h⟩
 | k + 1=>by
  obtain ⟨A3,A4,A5⟩:=shares_net_fair.mono_l k
  refine ⟨?_,?_,?_⟩
  ·intro y0 y1 y2 y3
   unfold shares_net_fair.l0
   repeat' first
   | (with_reducible first | exact A3 _ _ _ _ | exact A4 _ _ _ _ _ _ _ _ _ | exact A5 _ _ _ _ _ _ _ _ _ | exact shares_compare.mono _ _ _ _ _ | exact shares_net_fair_1.mono _ _ _ _ _ _ | exact shares_net_has.mono _ _ _ _ _ | exact shares_times.mono _ _ _ _ | exact slices_Contains_bool_bool.mono _ _ _ | exact LeO.refl _ | exact LeO.none _ | refine LeO.ite ?_ ?_ | refine LeO.bind ?_ (fun _=>?_))
   | exact LeO.none _ | refine LeO.ite ?_ ?_ | refine LeO.bind ?_ (fun _=>?_)
  ·intro y0 y1 y2 y3 y4 y5 y6 y7 y8
   unfold shares_net_fair.l1
   repeat' first
   | (with_reducible first | exact A3 _ _ _ _ | exact A4 _ _ _ _ _ _ _ _ _ | exact A5 _ _ _ _ _ _ _ _ _ | exact shares_compare.mono _ _ _ _ _ | exact shares_net_fair_1.mono _ _ _ _ _ _ | exact shares_net_has.mono _ _ _ _ _ | exact shares_times.mono _ _ _ _ | exact slices_Contains_bool_bool.mono _ _ _ | exact LeO.refl _ | exact LeO.none _ | refine LeO.ite ?_ ?_ | refine LeO.bind ?_ (fun _=>?_))
   | exact LeO.none _ | refine LeO.ite ?_ ?_ | refine LeO.bind ?_ (fun _=>?_)
  intro y0 y1 y2 y3 y4 y5 y6 y7 y8
  unfold shares_net_fair.l2
  repeat' first
  | (with_reducible first | exact A3 _ _ _ _ | exact A4 _ _ _ _ _ _ _ _ _ | exact A5 _ _ _ _ _ _ _ _ _ | exact shares_compare.mono _ _ _ _ _ | exact shares_net_fair_1.mono _ _ _ _ _ _ | exact shares_net_has.mono _ _ _ _ _ | exact shares_times.mono _ _ _ _ | exact slices_Contains_bool_bool.mono _ _ _ | exact LeO.refl _ | exact LeO.none _ | refine LeO.ite ?_ ?_ | refine LeO.bind ?_ (fun _=>?_))
  | exact LeO.none _ | refine LeO.ite ?_ ?_ | refine LeO.bind ?_ (fun _=>?_)
theorem shares_net_fair.mono:∀ a0 a1 k,LeO (shares_net_fair.f k a0 a1) (shares_net_fair.f (k + 1) a0 a1):=by
 intro a0 a1 k
 obtain ⟨A3,A4,A5⟩:=shares_net_fair.mono_l k
 unfold shares_net_fair.f
 repeat' first
   | (with_reducible first | exact A3 _ _ _ _ | exact A4 _ _ _ _ _ _ _ _ _ | exact A5 _ _ _ _ _ _ _ _ _ | exact shares_compare.mono _ _ _ _ _ | exact shares_net_fair_1.mono _ _ _ _ _ _ | exact shares_net_has.mono _ _ _ _ _ | exact shares_times.mono _ _ _ _ | exact slices_Contains_bool_bool.mono _ _ _ | exact LeO.refl _ | exact LeO.none _ | refine LeO.ite ?_ ?_ | refine LeO.bind ?_ (fun _=>?_))
   | exact LeO.none _ | refine LeO.ite ?_ ?_ | refine LeO.bind ?_ (fun _=>?_)
theorem shares_net_fair.calls (k:Nat) (j8:Option Addr) (j9:Nat) (e5:List Int) (l7:Option Addr) (l5:Nat) (c1:List (S45)) (r:List (S23)) (w:World) (r8:Kd.C (Kd.int .i64) w j8 e5.length e5) (r9:e5.length ≤ j9) (s0:Kd.C k45 w l7 c1.length c1) (s1:c1.length ≤ l5) (h:shares_net_fair.f k e5 c1 = some r) :
  Calls Try.prog 71 #[.agg #[.slice j8 e5.length j9,.slice l7 c1.length l5]] w fun e w'=>∃ v0_:Value,e = .returned (v0_) ∧ Kd.R k23 23 w' w.heap.size (fun _=>True) v0_ r ∧ Below w.heap.size w w':=by
 have hu109:=Try.underlying109
 have hu23:=Try.underlying23
 have n5:=A_ r8
 have n6:=A_ r9
 clear r8 r9
 have m9:=A_ s0
 have n7:=A_ s1
 clear s0 s1
 have HB:=A_ (Below.refl w.heap.size w)
 have H:(if 0 ≤ (c1.length:Int) then (if ((c1.length:Int):Int).toNat ≤ 17592186044416 then (if ((c1.length:Int):Int).toNat ≤ 281474976710656 then (shares_net_fair.l0 k e5 c1 (List.replicate ((c1.length:Int):Int).toNat z23) (List.replicate ((c1.length:Int):Int).toNat false)) else (none)) else (none)) else (none)) = some r:=h
 clear h
 replace H:=gd H
 obtain ⟨c2,H⟩:=H
 have c2b0:=eq_true c2
 have c2b1:=decide_eq_true c2
 clear c2
 replace H:=gd H
 obtain ⟨c3,H⟩:=H
 have c3b0:=eq_true c3
 have c3b1:=decide_eq_true c3
 clear c3
 obtain ⟨p6,p8⟩:∃ y_:List (S23),y_ = (List.replicate ((c1.length:Int):Int).toNat z23):=⟨_,rfl⟩
 replace H:(if ((c1.length:Int):Int).toNat ≤ 281474976710656 then (shares_net_fair.l0 k e5 c1 p6 (List.replicate ((c1.length:Int):Int).toNat false)) else (none)) = some r:=by rw [p8];exact H
 have s2:=A_ p8
 clear p8
 replace H:=gd H
 obtain ⟨c4,H⟩:=H
 have c4b0:=eq_true c4
 have c4b1:=decide_eq_true c4
 clear c4
 obtain ⟨p9,q0⟩:∃ y_:List Bool,y_ = (List.replicate ((c1.length:Int):Int).toNat false):=⟨_,rfl⟩
 replace H:(shares_net_fair.l0 k e5 c1 p6 p9) = some r:=by rw [q0];exact H
 have s3:=A_ q0
 clear q0
 have H':=A_ H
 clear H
 go_enter Try.func71,Try.ntmps71
 go_wp2_with (first | ((with_reducible refine gate_dst (N:=1) rfl ?_);refine bx 1 #[.slice j8 e5.length j9,.slice l7 c1.length l5] 109 ?_;intro e7 hg w5 hbox hb;have b2:=A_ hbox;have A6:=gw hg HB;have GE242:=A6;replace HB:=bB HB hb;clear hb hbox hg;have V9:w5.cell? ⟨e7,0,none⟩ = some (.slice j8 e5.length j9):=cz b2 0;have W0:w5.cell? ⟨e7,1,none⟩ = some (.slice l7 c1.length l5):=cz b2 1;have W1:=blk_frozen b2.out 0;have W2:=blk_frozen b2.out 1) | ((with_reducible refine gate_dst (N:=15) rfl ?_);refine Kd.R_make k23 _ 23 rfl (N:=15) rfl 35 _ _ rfl (c1.length:Int) rfl rfl Try.underlying35 (.agg #[(.int .i64 0),(.int .i64 0)]) 16 info23 rfl (by decide) (by omega) z23 (ok:=fun _=>True) (okp:=fun _=>True) (k23_mkM _ _ _ z23 ) (fun _ hk=>hk) trivial (of_decide_eq_true (by assumption)) (Nat.le_trans (Nat.mul_le_mul_right _ (of_decide_eq_true (by assumption):(c1.length:Int).toNat ≤ 17592186044416)) (by omega)) (Below.refl _ _) (Nat.le_refl _) ?_;intro v244 w7 A7 hb hg_ hnew_;clear hg_ hnew_;(first | rw [← s2.out] at A7 | (simp only [Int.reduceToNat] at A7;rw [← s2.out] at A7));have m5:=A_ (Kd.R_lower A7 (below_size (bl HB)));replace b2:=kB b2 hb;replace HB:=bB HB hb;clear hb A7) | ((with_reducible refine gate_dst (N:=3) rfl ?_);refine bx 3 #[.slice none 0 0] 35 ?_;intro i5 hg w9 hbox hb;have b4:=A_ hbox;have A8:=gw hg HB;have GE246:=A8;have e2:=nl hg b2;have h3:=ng hg b2;replace m5:=rB m5 hb;replace b2:=kB b2 hb;replace HB:=bB HB hb;clear hb hbox hg;obtain ⟨t6,t7,W3⟩:=Kd.R_slice m5.out;subst W3;have hnb11:=h3.out;have hnc11:=e2.out;have K7:w9.cell? ⟨i5,0,none⟩ = some (.slice none 0 0):=cz b4 0;have K8:=blk_frozen b4.out 0;have K9:w9.cell? ⟨e7,0,none⟩ = some (.slice j8 e5.length j9):=cz b2 0;have L0:w9.cell? ⟨e7,1,none⟩ = some (.slice l7 c1.length l5):=cz b2 1;have L1:=blk_frozen b2.out 0;have L2:=blk_frozen b2.out 1) | ((with_reducible refine gate_dst (N:=19) rfl ?_);refine Kd.R_make Kd.bool _ 4 rfl (N:=19) rfl 115 _ _ rfl (c1.length:Int) rfl rfl Try.underlying115 (.bool false) 1 info4 rfl (by decide) (by omega) false (ok:=fun _=>True) (okp:=fun _=>True) rfl (fun _ hk=>hk) trivial (of_decide_eq_true (by assumption)) (Nat.le_trans (Nat.mul_le_mul_right _ (of_decide_eq_true (by assumption):(c1.length:Int).toNat ≤ 281474976710656)) (by omega)) (Below.refl _ _) (Nat.le_refl _) ?_;intro v248 w14 q1 hb hg_ hnew_;clear hg_ hnew_;(first | rw [← s3.out] at q1 | (simp only [Int.reduceToNat] at q1;rw [← s3.out] at q1));have o9:=A_ (Kd.R_lower q1 (below_size (bl HB)));replace m5:=A_ (Kd.R_below (by exact (Kd.R_mono (Kd.R_far (p:=⟨i5,0,none⟩) (Kd.R_types m5.out b4.out (by decide)) (fun _ hk=>hk.2) (.slice t6 p6.length t7)) (fun _ h_=>h_.1))) hb);replace b2:=kB b2 hb;replace b4:=A_ (blk_below (g:=i5) (o:=.cells #[.slice t6 p6.length t7] 35 (0,0)) (by refine blk_put (cs:=#[.slice none 0 0]) ?_ 0 _ rfl;exact b4.out) hb);replace HB:=bB HB hb;clear hb q1) | ((with_reducible refine gate_dst (N:=4) rfl ?_);refine bx 4 #[.slice none 0 0] 115 ?_;intro i2 hg w16 hbox hb;have b3:=A_ hbox;have A9:=gw hg HB;have GE250:=A9;have e0:=nl hg b2;have h4:=ng hg b2;have h5:=nl hg b4;have e6:=ng hg b4;replace m5:=rB m5 hb;replace o9:=rB o9 hb;replace b2:=kB b2 hb;replace b4:=kB b4 hb;replace HB:=bB HB hb;clear hb hbox hg;obtain ⟨t8,t9,W4⟩:=Kd.R_slice o9.out;subst W4;have hnb18:=h4.out;have hnc18:=e0.out;have hnb19:=e6.out;have hnc19:=h5.out;have L3:w16.cell? ⟨i2,0,none⟩ = some (.slice none 0 0):=cz b3 0;have L4:=blk_frozen b3.out 0))
 go_loopg [] k (fun kq w'=>∃ (d4:List (S23)) (b7:List Bool) (e4:Value) (i4:Value),Aside0 (shares_net_fair.l0 kq e5 c1 d4 b7 = some r) ∧ Aside0 (kq ≤ k) ∧ Aside0 (Kd.R k23 23 w' w.heap.size (fun _=>True) e4 d4) ∧ Aside0 (Kd.R Kd.bool 4 w' w.heap.size (fun _=>True) i4 b7) ∧ Aside0 (w'.heap[e7]? = some (.cells #[(.slice j8 e5.length j9),(.slice l7 c1.length l5)] 109 (0,0))) ∧ Aside0 (w'.heap[i5]? = some (.cells #[e4] 35 (0,0))) ∧ Aside0 (w'.heap[i2]? = some (.cells #[i4] 115 (0,0))) ∧ Aside0 (Below w.heap.size w w'))
 case atStart=>exact ⟨(p6),(p9),(.slice t6 p6.length t7),(.slice t8 p9.length t9),H',⟨Nat.le_refl _⟩,⟨by exact Kd.R_mono (Kd.R_far (p:=⟨i2,0,none⟩) (Kd.R_types m5.out b3.out (by decide)) (fun _ hk=>hk.2) (.slice t8 p9.length t9)) (fun _ hk=>trivial)⟩,⟨by exact Kd.R_mono (Kd.R_far (p:=⟨i2,0,none⟩) (Kd.R_types o9.out b3.out (by decide)) (fun _ hk=>hk.2) (.slice t8 p9.length t9)) (fun _ hk=>trivial)⟩,⟨by refine blk_far ?_ e0.out _;exact b2.out⟩,⟨by refine blk_far ?_ h5.out _;exact b4.out⟩,⟨by refine blk_put (cs:=#[.slice none 0 0]) ?_ 0 _ rfl;exact b3.out⟩,⟨bl HB⟩⟩
 case round =>
  clear H'
  obtain ⟨d4,b7,e4,i4,HA,o1,b0,b1,b2,b4,b3,HB⟩:=hrel
  cases gk with
  | zero=>exact absurd HA.out (by simp [shares_net_fair.l0])
  | succ k1 =>
   have H:=HA.out
   clear HA
   simp only [shares_net_fair.l0] at H
   replace H:=Option.bind_eq_some_iff.mp H
   obtain ⟨r2,B0,H⟩:=H
   replace H:(if r2 = true then (shares_net_fair.l1 k1 (-1) (e5.length:Int) 0 e5 c1 d4 b7 0 0) else (some d4)) = some r:=H
   have A21:=A_ B0
   clear B0
   by_cases L5:r2 = true
   case neg =>
    replace L5:=Bool.eq_false_iff.mpr L5
    subst L5
    rw [if_neg (show ¬ (false = true) by decide)] at H
    obtain rfl:=Option.some.inj H
    have W5:=h4.out
    have W6:=e0.out
    have W7:=e6.out
    have W8:=h5.out
    have C0:wr.cell? ⟨i2,0,none⟩ = some (i4):=cz b3 0
    have C1:=blk_frozen b3.out 0
    obtain ⟨C2,C3,C4⟩:=Kd.R_slice b1.out
    subst C4
    go_wp2_with (first | ((with_reducible refine gate_callee (f:=105) rfl ?_);refine gL (some 22) Try.func105 #[.slice C2 b7.length C3,.bool false] ?_;(with_reducible refine (slices_Contains_bool_bool.calls k1 _ _ b7 false false _ ?side1 ?side2 A21.out).mono ?_);(case side1=>repeat (first | exact (Kd.R_reads' b1.out).2.2 | (with_reducible refine Kd.C_alloc ?_ _) | (with_reducible refine Kd.C_drewN ?_ _) | (with_reducible refine Kd.C_drew ?_)));(case side2=>exact (Kd.R_reads' b1.out).2.1);rintro e w' ⟨rfl,⟨nd,rfl⟩⟩;refine ⟨_,rfl,?_⟩;have W9:=h3.out;have X0:=e2.out;have C5:wr.cell? ⟨i5,0,none⟩ = some (e4):=cz b4 0;have C6:=blk_frozen b4.out 0))
    go_ret
    exact ⟨_,rfl,by exact b0.out,bl HB⟩
   subst L5
   rw [if_pos rfl] at H
   have H':=A_ H
   clear H
   have hnb23:=h4.out
   have hnc23:=e0.out
   have hnb24:=e6.out
   have hnc24:=h5.out
   have L6:wr.cell? ⟨i2,0,none⟩ = some (i4):=cz b3 0
   have L7:=blk_frozen b3.out 0
   obtain ⟨m6,m7,X1⟩:=Kd.R_slice b1.out
   subst X1
   go_wp2_with (first | ((with_reducible refine gate_callee (f:=105) rfl ?_);refine gL (some 22) Try.func105 #[.slice m6 b7.length m7,.bool false] ?_;(with_reducible refine (slices_Contains_bool_bool.calls k1 _ _ b7 false true _ ?side1 ?side2 A21.out).mono ?_);(case side1=>repeat (first | exact (Kd.R_reads' b1.out).2.2 | (with_reducible refine Kd.C_alloc ?_ _) | (with_reducible refine Kd.C_drewN ?_ _) | (with_reducible refine Kd.C_drew ?_)));(case side2=>exact (Kd.R_reads' b1.out).2.1);rintro e w' ⟨rfl,⟨nd,rfl⟩⟩;refine ⟨_,rfl,?_⟩;(try (rw [drewN_self wr];generalize hq_:World.drewN wr _ = wr;replace b0:Aside0 (Kd.R k23 23 wr w.heap.size (fun _=>True) e4 d4):=⟨by rw [← hq_];exact b0.out⟩;replace b1:Aside0 (Kd.R Kd.bool 4 wr w.heap.size (fun _=>True) (.slice m6 b7.length m7) b7):=⟨by rw [← hq_];exact b1.out⟩;replace b2:Aside0 (wr.heap[e7]? = some (.cells #[.slice j8 e5.length j9,.slice l7 c1.length l5] 109 (0,0))):=⟨by rw [← hq_];exact b2.out⟩;replace b4:Aside0 (wr.heap[i5]? = some (.cells #[e4] 35 (0,0))):=⟨by rw [← hq_];exact b4.out⟩;replace b3:Aside0 (wr.heap[i2]? = some (.cells #[.slice m6 b7.length m7] 115 (0,0))):=⟨by rw [← hq_];exact b3.out⟩;replace HB:Aside0 (Below w.heap.size w wr):=⟨by rw [← hq_];exact (bl HB)⟩;clear hq_))) | ((with_reducible refine gate_dst (N:=7) rfl ?_);refine bx 7 #[.int .i64 0,.int .i64 0] 23 ?_;intro d3 hg L8 hbox hb;have b5:=A_ hbox;have C7:=gw hg HB;have GE252:=C7;have d5:=nl hg b2;have e8:=ng hg b2;have d6:=nl hg b4;have e9:=ng hg b4;have d7:=nl hg b3;have h0:=ng hg b3;replace b0:=A_ (Kd.R_below (Kd.R_elderB b0.out d3 (Nat.le_of_eq hg.symm)) hb);replace b1:=rB b1 hb;replace b2:=kB b2 hb;replace b4:=kB b4 hb;replace b3:=kB b3 hb;replace HB:=bB HB hb;clear hb hbox hg;have hnb28:=e8.out;have hnc28:=d5.out;have hnb29:=e9.out;have hnc29:=d6.out;have hnb30:=h0.out;have hnc30:=d7.out;have L9:L8.cell? ⟨d3,0,none⟩ = some (.int .i64 0):=cz b5 0;have M0:L8.cell? ⟨d3,1,none⟩ = some (.int .i64 0):=cz b5 1;have M1:=blk_frozen b5.out 0;have M2:=blk_frozen b5.out 1;have hnb32:=e2.out;have hnc32:=h3.out;have M3:L8.cell? ⟨e7,0,none⟩ = some (.slice j8 e5.length j9):=cz b2 0;have M4:L8.cell? ⟨e7,1,none⟩ = some (.slice l7 c1.length l5):=cz b2 1;have M5:=blk_frozen b2.out 0;have M6:=blk_frozen b2.out 1))
   go_loopg [6,27] k1 (fun kq v6 v27 w'=>∃ (l8:Int) (i9:Int) (e1:Int) (d8:Int),v6 = .int .i64 l8 ∧ v27 = .int .i64 i9 ∧ Aside0 (shares_net_fair.l1 kq l8 (e5.length:Int) i9 e5 c1 d4 b7 e1 d8 = some r) ∧ Aside0 (kq ≤ k1) ∧ Aside0 (Kd.R k23 23 w' w.heap.size (fun k_=>k_ ≠ d3) e4 d4) ∧ Aside0 (Kd.R Kd.bool 4 w' w.heap.size (fun _=>True) (.slice m6 b7.length m7) b7) ∧ Aside0 (w'.heap[e7]? = some (.cells #[(.slice j8 e5.length j9),(.slice l7 c1.length l5)] 109 (0,0))) ∧ Aside0 (w'.heap[i5]? = some (.cells #[e4] 35 (0,0))) ∧ Aside0 (w'.heap[i2]? = some (.cells #[(.slice m6 b7.length m7)] 115 (0,0))) ∧ Aside0 (w'.heap[d3]? = some (.cells #[.int .i64 e1,.int .i64 d8] 23 (0,0))) ∧ Aside0 (Below w.heap.size w w'))
   case atStart=>exact ⟨((-1)),(0),(0),(0),rfl,rfl,H',⟨Nat.le_refl _⟩,⟨by exact Kd.R_mono (Kd.R_far (p:=⟨d3,1,none⟩) (Kd.R_far (p:=⟨d3,0,none⟩) (Kd.R_mono b0.out (fun k_ hk=>(⟨hk,hk.2⟩:_ ∧ k_ ≠ d3))) (fun _ hk=>hk.2) (.int .i64 0)) (fun _ hk=>hk.2) (.int .i64 0)) (fun _ hk=>hk.1.2)⟩,⟨by exact Kd.R_mono (Kd.R_far (p:=⟨d3,1,none⟩) (Kd.R_far (p:=⟨d3,0,none⟩) (Kd.R_types b1.out b5.out (by decide)) (fun _ hk=>hk.2) (.int .i64 0)) (fun _ hk=>hk.2) (.int .i64 0)) (fun _ hk=>trivial)⟩,⟨by refine blk_far ?_ d5.out _;refine blk_far ?_ d5.out _;exact b2.out⟩,⟨by refine blk_far ?_ d6.out _;refine blk_far ?_ d6.out _;exact b4.out⟩,⟨by refine blk_far ?_ d7.out _;refine blk_far ?_ d7.out _;exact b3.out⟩,⟨by refine blk_put (cs:=#[.int .i64 0,.int .i64 0]) ?_ 1 _ rfl;refine blk_put (cs:=#[.int .i64 0,.int .i64 0]) ?_ 0 _ rfl;exact b5.out⟩,⟨bl HB⟩⟩
   case round =>
    clear H'
    obtain ⟨l8,i9,e1,d8,rfl,rfl,HA,o2,b0,b1,b2,b4,b3,b5,HB⟩:=hrel
    cases gk with
    | zero=>exact absurd HA.out (by simp [shares_net_fair.l1])
    | succ k2 =>
     have H:=HA.out
     clear HA
     simp only [shares_net_fair.l1] at H
     by_cases z9:i9 < (e5.length:Int)
     case neg =>
      rw [if_neg z9] at H
      have C8:=decide_eq_false z9
      clear z9
      have H':=A_ H
      clear H
      have X2:=e2.out
      have X3:=h3.out
      have X4:=e0.out
      have X5:=h4.out
      have X6:=d5.out
      have X7:=e8.out
      have C9:wr.cell? ⟨e7,0,none⟩ = some (.slice j8 e5.length j9):=cz b2 0
      have D0:wr.cell? ⟨e7,1,none⟩ = some (.slice l7 c1.length l5):=cz b2 1
      have D1:=blk_frozen b2.out 0
      have D2:=blk_frozen b2.out 1
      go_wp2
      go_loopg [53] k2 (fun kq v53 w'=>∃ (b6:Int) (b8:List (S23)) (c0:List Bool) (d0:Int) (d1:Int) (e4:Value) (i4:Value),v53 = .int .i64 b6 ∧ Aside0 (shares_net_fair.l2 kq l8 (c1.length:Int) b6 e5 c1 b8 c0 d0 d1 = some r) ∧ Aside0 (kq ≤ k2) ∧ Aside0 (Kd.R k23 23 w' w.heap.size (fun k_=>k_ ≠ d3) e4 b8) ∧ Aside0 (Kd.R Kd.bool 4 w' w.heap.size (fun _=>True) i4 c0) ∧ Aside0 (w'.heap[e7]? = some (.cells #[(.slice j8 e5.length j9),(.slice l7 c1.length l5)] 109 (0,0))) ∧ Aside0 (w'.heap[i5]? = some (.cells #[e4] 35 (0,0))) ∧ Aside0 (w'.heap[i2]? = some (.cells #[i4] 115 (0,0))) ∧ Aside0 (w'.heap[d3]? = some (.cells #[.int .i64 d0,.int .i64 d1] 23 (0,0))) ∧ Aside0 (Below w.heap.size w w'))
      case atStart=>exact ⟨(0),(d4),(b7),(e1),(d8),(e4),(.slice m6 b7.length m7),rfl,H',⟨Nat.le_refl _⟩,⟨by exact b0.out⟩,⟨by exact b1.out⟩,⟨by exact b2.out⟩,⟨by exact b4.out⟩,⟨by exact b3.out⟩,⟨by exact b5.out⟩,⟨bl HB⟩⟩
      case round =>
       clear H'
       obtain ⟨b6,b8,c0,d0,d1,e4,i4,rfl,HA,s4,b0,b1,b2,b4,b3,b5,HB⟩:=hrel
       cases gk with
       | zero=>exact absurd HA.out (by simp [shares_net_fair.l2])
       | succ k3 =>
        have H:=HA.out
        clear HA
        simp only [shares_net_fair.l2] at H
        by_cases p7:b6 < (c1.length:Int)
        case neg =>
         rw [if_neg p7] at H
         have x0:=decide_eq_false p7
         clear p7
         have H':=A_ H
         clear H
         go_wp2
         go_roundg k3
         case measure=>have:=o1.out;have:=o2.out;have:=s4.out;omega
         case rel=>exact ⟨(b8),(c0),(e4),(i4),H',⟨by have:=o1.out;have:=o2.out;have:=s4.out;omega⟩,⟨by exact Kd.R_mono b0.out (fun _ hk=>trivial)⟩,⟨by exact b1.out⟩,⟨by exact b2.out⟩,⟨by exact b4.out⟩,⟨by exact b3.out⟩,⟨bl HB⟩⟩
        rw [if_pos p7] at H
        have x0:=decide_eq_true p7
        clear p7
        replace H:=gd H
        obtain ⟨D3,H⟩:=H
        have X8:=decide_eq_true D3
        clear D3
        replace H:=gd H
        obtain ⟨D4,H⟩:=H
        have X9:=decide_eq_true D4
        clear D4
        obtain ⟨s5,o3⟩:∃ b_:Bool,b_ = (rdOf false c0 b6):=⟨_,rfl⟩
        replace H:(if s5 = true then (shares_net_fair.l2 k3 l8 (c1.length:Int) (wrap64 (b6 + 1)) e5 c1 b8 c0 d0 d1) else ((shares_net_has.f k3 e5 c1 b6 l8).bind fun p5=>(if p5 = true then (if b6 < (c1.length:Int) then ((shares_times.f k3 d0 d1 ((rd_T45 c1 b6).f0)).bind fun m4=>(if b6 < (b8.length:Int) then (shares_net_fair.l2 k3 l8 (c1.length:Int) (wrap64 (b6 + 1)) e5 c1 (b8.set (b6:Int).toNat (⟨m4.1,m4.2⟩:S23)) (c0.set (b6:Int).toNat true) d0 d1) else (none))) else (none)) else (shares_net_fair.l2 k3 l8 (c1.length:Int) (wrap64 (b6 + 1)) e5 c1 b8 c0 d0 d1)))) = some r:=by rw [← o3] at H;exact H
        have o4:=A_ o3
        clear o3
        by_cases r3:s5 = true
        ·subst r3
         rw [if_pos rfl] at H
         have H':=A_ H
         clear H
         have Y0:=h4.out
         have Y1:=e0.out
         have Y2:=e6.out
         have Y3:=h5.out
         have Y4:=d7.out
         have Y5:=h0.out
         have D5:wr.cell? ⟨i2,0,none⟩ = some (i4):=cz b3 0
         have D6:=blk_frozen b3.out 0
         obtain ⟨Ao132,D7,D8⟩:=Kd.R_slice b1.out
         subst D8
         have n0:0 ≤ (b6:Int):=of_decide_eq_true (by assumption)
         have n1:b6 < (c0.length:Int):=of_decide_eq_true (by assumption)
         obtain ⟨n2,q2,l9⟩:=Kd.at_bool (Kd.R_reads' b1.out).2.2 b6 n0 n1
         (try rw [← o4.out] at l9)
         cases q2
         replace n0:=eq_true n0
         replace n1:=eq_true n1
         have Y6:=h3.out
         have Y7:=e2.out
         have Y8:=d6.out
         have Y9:=e9.out
         have D9:wr.cell? ⟨i5,0,none⟩ = some (e4):=cz b4 0
         have E0:=blk_frozen b4.out 0
         obtain ⟨E1,E2,E3⟩:=Kd.R_slice b0.out
         subst E3
         go_wp2
         go_roundg k3
         case measure=>have:=o1.out;have:=o2.out;have:=s4.out;omega
         case rel=>exact ⟨(wrap64 (b6 + 1)),(b8),(c0),(d0),(d1),(.slice E1 b8.length E2),(.slice (some n2) c0.length D7),rfl,H',⟨by have:=o1.out;have:=o2.out;have:=s4.out;omega⟩,⟨by exact b0.out⟩,⟨by exact b1.out⟩,⟨by exact b2.out⟩,⟨by exact b4.out⟩,⟨by exact b3.out⟩,⟨by exact b5.out⟩,⟨bl HB⟩⟩
        replace r3:=Bool.eq_false_iff.mpr r3
        subst r3
        rw [if_neg (show ¬ (false = true) by decide)] at H
        replace H:=Option.bind_eq_some_iff.mp H
        obtain ⟨p5,s6,H⟩:=H
        replace H:(if p5 = true then (if b6 < (c1.length:Int) then ((shares_times.f k3 d0 d1 ((rd_T45 c1 b6).f0)).bind fun m4=>(if b6 < (b8.length:Int) then (shares_net_fair.l2 k3 l8 (c1.length:Int) (wrap64 (b6 + 1)) e5 c1 (b8.set (b6:Int).toNat (⟨m4.1,m4.2⟩:S23)) (c0.set (b6:Int).toNat true) d0 d1) else (none))) else (none)) else (shares_net_fair.l2 k3 l8 (c1.length:Int) (wrap64 (b6 + 1)) e5 c1 b8 c0 d0 d1)) = some r:=H
        have E4:=A_ s6
        clear s6
        by_cases r4:p5 = true
        case neg =>
         replace r4:=Bool.eq_false_iff.mpr r4
         subst r4
         rw [if_neg (show ¬ (false = true) by decide)] at H
         have H':=A_ H
         clear H
         have Z0:=h4.out
         have Z1:=e0.out
         have Z2:=e6.out
         have Z3:=h5.out
         have Z4:=d7.out
         have Z5:=h0.out
         have E5:wr.cell? ⟨i2,0,none⟩ = some (i4):=cz b3 0
         have E6:=blk_frozen b3.out 0
         obtain ⟨Ao167,s7,E7⟩:=Kd.R_slice b1.out
         subst E7
         have n0:0 ≤ (b6:Int):=of_decide_eq_true (by assumption)
         have n1:b6 < (c0.length:Int):=of_decide_eq_true (by assumption)
         obtain ⟨n2,q2,l9⟩:=Kd.at_bool (Kd.R_reads' b1.out).2.2 b6 n0 n1
         (try rw [← o4.out] at l9)
         cases q2
         replace n0:=eq_true n0
         replace n1:=eq_true n1
         have Z6:=e2.out
         have Z7:=h3.out
         have Z8:=d5.out
         have Z9:=e8.out
         have E8:wr.cell? ⟨e7,0,none⟩ = some (.slice j8 e5.length j9):=cz b2 0
         have E9:wr.cell? ⟨e7,1,none⟩ = some (.slice l7 c1.length l5):=cz b2 1
         have F0:=blk_frozen b2.out 0
         have F1:=blk_frozen b2.out 1
         go_wp2_with (first | (go_at_call 104;(with_reducible refine (shares_net_has.calls k3 _ _ e5 _ _ c1 b6 l8 false _ ?side1 ?side2 ?side3 ?side4 E4.out).mono ?_);(case side1=>exact cB n5 HB);(case side2=>exact n6.out);(case side3=>exact cB m9 HB);(case side4=>exact n7.out);rintro e F2 ⟨rfl,hb⟩;replace b0:=rB b0 hb;replace b1:=rB b1 hb;replace b2:=kB b2 hb;replace b4:=kB b4 hb;replace b3:=kB b3 hb;replace b5:=kB b5 hb;replace HB:=bB HB hb;(try clear hb);have F3:F2.cell? ⟨i2,0,none⟩ = some (.slice (some n2) c0.length s7):=cz b3 0;have F4:=blk_frozen b3.out 0;have ba0:=d6.out;have ba1:=e9.out;have F5:F2.cell? ⟨i5,0,none⟩ = some (e4):=cz b4 0;have F6:=blk_frozen b4.out 0;obtain ⟨F7,F8,F9⟩:=Kd.R_slice b0.out;subst F9))
         go_roundg k3
         case measure=>have:=o1.out;have:=o2.out;have:=s4.out;omega
         case rel=>exact ⟨(wrap64 (b6 + 1)),(b8),(c0),(d0),(d1),(.slice F7 b8.length F8),(.slice (some n2) c0.length s7),rfl,H',⟨by have:=o1.out;have:=o2.out;have:=s4.out;omega⟩,⟨by exact b0.out⟩,⟨by exact b1.out⟩,⟨by exact b2.out⟩,⟨by exact b4.out⟩,⟨by exact b3.out⟩,⟨by exact b5.out⟩,⟨bl HB⟩⟩
        subst r4
        rw [if_pos rfl] at H
        replace H:=gd H
        obtain ⟨G0,H⟩:=H
        have ba2:=decide_eq_true G0
        clear G0
        replace H:=Option.bind_eq_some_iff.mp H
        obtain ⟨⟨o5,o6⟩,A1400,H⟩:=H
        dsimp only at H
        have ba3:=A_ A1400
        clear A1400
        obtain ⟨r5,q3⟩:∃ y_:List Bool,y_ = (c0.set (b6:Int).toNat true):=⟨_,rfl⟩
        replace H:(if b6 < (b8.length:Int) then (shares_net_fair.l2 k3 l8 (c1.length:Int) (wrap64 (b6 + 1)) e5 c1 (b8.set (b6:Int).toNat (⟨o5,o6⟩:S23)) r5 d0 d1) else (none)) = some r:=by rw [q3];exact H
        have G1:=A_ q3
        clear q3
        replace H:=gd H
        obtain ⟨G2,H⟩:=H
        have ba4:=decide_eq_true G2
        clear G2
        obtain ⟨G3,q4⟩:∃ y_:List (S23),y_ = (b8.set (b6:Int).toNat (⟨o5,o6⟩:S23)):=⟨_,rfl⟩
        replace H:(shares_net_fair.l2 k3 l8 (c1.length:Int) (wrap64 (b6 + 1)) e5 c1 G3 r5 d0 d1) = some r:=by rw [q4];exact H
        have G4:=A_ q4
        clear q4
        have H':=A_ H
        clear H
        have ba5:=h4.out
        have ba6:=e0.out
        have ba7:=e6.out
        have ba8:=h5.out
        have ba9:=d7.out
        have bb0:=h0.out
        have G5:wr.cell? ⟨i2,0,none⟩ = some (i4):=cz b3 0
        have G6:=blk_frozen b3.out 0
        obtain ⟨Ao148,n8,G7⟩:=Kd.R_slice b1.out
        subst G7
        have n0:0 ≤ (b6:Int):=of_decide_eq_true (by assumption)
        have n1:b6 < (c0.length:Int):=of_decide_eq_true (by assumption)
        obtain ⟨n2,q2,l9⟩:=Kd.at_bool (Kd.R_reads' b1.out).2.2 b6 n0 n1
        (try rw [← o4.out] at l9)
        cases q2
        replace n0:=eq_true n0
        replace n1:=eq_true n1
        have bb1:=e2.out
        have bb2:=h3.out
        have bb3:=d5.out
        have bb4:=e8.out
        have G8:wr.cell? ⟨e7,0,none⟩ = some (.slice j8 e5.length j9):=cz b2 0
        have G9:wr.cell? ⟨e7,1,none⟩ = some (.slice l7 c1.length l5):=cz b2 1
        have H0:=blk_frozen b2.out 0
        have H1:=blk_frozen b2.out 1
        try go_wp2_with (first | (go_at_call 104;(with_reducible refine (shares_net_has.calls k3 _ _ e5 _ _ c1 b6 l8 true _ ?side1 ?side2 ?side3 ?side4 E4.out).mono ?_);(case side1=>exact cB n5 HB);(case side2=>exact n6.out);(case side3=>exact cB m9 HB);(case side4=>exact n7.out);rintro e x1 ⟨rfl,hb⟩;replace b0:=rB b0 hb;replace b1:=rB b1 hb;replace b2:=kB b2 hb;replace b4:=kB b4 hb;replace b3:=kB b3 hb;replace b5:=kB b5 hb;replace HB:=bB HB hb;(try clear hb);have H2:x1.cell? ⟨i2,0,none⟩ = some (.slice (some n2) c0.length n8):=cz b3 0;have H3:=blk_frozen b3.out 0;have bb5:=d6.out;have bb6:=e9.out;have H4:x1.cell? ⟨i5,0,none⟩ = some (e4):=cz b4 0;have H5:=blk_frozen b4.out 0;obtain ⟨q5,p0,H6⟩:=Kd.R_slice b0.out;subst H6))
        replace b0:=rD b0
        replace b1:=rD b1
        replace b2:=kD b2
        replace b4:=kD b4
        replace b3:=kD b3
        replace b5:=kD b5
        replace HB:=bD HB
        have x2:0 ≤ (b6:Int):=of_decide_eq_true (by assumption)
        have x3:b6 < (c1.length:Int):=of_decide_eq_true (by assumption)
        obtain ⟨n9,x4,x5,bb7,m2,m3,p1,p2⟩:=at_T45 m9.out b6 x2 x3
        have m0:=m3
        have m1:=m2
        cases bb7
        replace m2:=(HB.out.cell (World.block_lt_of_cell? w _ m2)).trans m2
        replace m3:=(HB.out.cell (World.block_lt_of_cell? w _ m3)).trans m3
        have r6:=A_ p2
        have M7:=A_ p1
        clear p2 p1
        replace x2:=eq_true x2
        replace x3:=eq_true x3
        refine start_ (n:=16) (S:=fun w'=>w'.cell? ⟨i2,0,none⟩ = some (.slice (some n2) c0.length n8) ∧ w'.cell? ⟨d3,0,none⟩ = some (.int .i64 d0) ∧ w'.cell? ⟨d3,1,none⟩ = some (.int .i64 d1) ∧ w'.cell? ⟨e7,0,none⟩ = some (.slice j8 e5.length j9) ∧ w'.cell? ⟨e7,1,none⟩ = some (.slice (some n9) c1.length l5) ∧ w'.cell? (n9.add ((b6).toNat * 2)) = some (.int .i64 ((rd_T45 c1 b6).f0)) ∧ w'.cell? ⟨(n9.add ((b6).toNat * 2)).block,(n9.add ((b6).toNat * 2)).off + 1,none⟩ = some (.slice x4 ((rd_T45 c1 b6).f1).length x5) ∧ w'.cell? ⟨i5,0,none⟩ = some (.slice q5 b8.length p0)) (ds:=[15]) (ba 16 0) (by kernel_rfl) rfl rfl ⟨cz b3 0,cz b5 0,cz b5 1,cz b2 0,cz b2 1,((HB.out.cell (World.block_lt_of_cell? w _ m1)).trans m1),((HB.out.cell (World.block_lt_of_cell? w _ m0)).trans m0),cz b4 0⟩ (fun hHeld=>?_)
        generalize x1.drew = w157 at b0 b1 b2 b4 b3 b5 HB r6 m2 m3 hHeld ⊢
        refine pr 3 70 8 ?_
        refine tr 2 69 12 hHeld ?_
        refine pr 1 68 14 ?_
        refine pr 5 72 46 ?_
        refine pr 7 74 174 ?_
        refine tr 0 67 175 hHeld ?_
        refine tr 4 71 191 hHeld ?_
        refine tr 6 73 255 hHeld ?_
        refine pr 8 75 511 ?_
        refine pr 9 76 1023 ?_
        refine tr 10 77 2047 hHeld ?_
        refine os 11 78 4095 (fun K hK=>?_)
        refine gq Try.func106 #[.agg #[.int .i64 d0,.int .i64 d1],.int .i64 ((rd_T45 c1 b6).f0)] ?_
        with_reducible refine (shares_times.calls k3 d0 d1 ((rd_T45 c1 b6).f0) o5 o6 _ ba3.out).mono ?_
        rintro e o0 ⟨rfl,hb⟩
        refine ⟨_,rfl,?_⟩
        replace b0:=rB b0 hb
        replace b1:=rB b1 hb
        replace b2:=kB b2 hb
        replace b4:=kB b4 hb
        replace b3:=kB b3 hb
        replace b5:=kB b5 hb
        replace HB:=bB HB hb
        (try clear hb)
        have x7:0 ≤ (b6:Int):=of_decide_eq_true (by assumption)
        have x8:(b6:Int) < ((c0.length:Int):Int):=of_decide_eq_true (by assumption)
        obtain ⟨l6,co141,s8,s9,H7,cl141,t0⟩:=Kd.R_form b1.out (by omega)
        (first | cases s8 | (injection s8 with ea_ en_ ec_;(first | subst ea_ | (injection ea_ with ea_;subst ea_));subst ec_;clear en_))
        have GB141:=A_ s9
        have H8:=A_ t0
        clear s9 H7 t0
        (first | simp only [add_plain] at l9 | skip)
        obtain ⟨M8,M9⟩:=Kd.R_celln false b1.out (b6:Int) x7 x8
        replace x7:=eq_true x7
        replace x8:=eq_true x8
        have q6:=Kd.R_putn b1.out (b6:Int) true
        rw [← G1.out] at q6
        have H9:=A_ q6
        clear q6
        refine hK.out _ _ ⟨cz b3 0,cz b5 0,cz b5 1,cz b2 0,cz b2 1,((HB.out.cell (World.block_lt_of_cell? w _ m1)).trans m1),((HB.out.cell (World.block_lt_of_cell? w _ m0)).trans m0),cz b4 0⟩ (fun hHeld=>?_)
        clear hK K
        refine nq 78 ?_
        refine pr 12 79 8191 ?_
        refine one_ (i:=13) (N:=none) (ba 16 16383) rfl rfl (by kernel_rfl) (by decide) (fun K hK=>?_)
        refine skip_ (w1:=?_) (by rfl) rfl ?_ ?_
        rotate_left
        ·go_simp
         rfl
        have x9:Aside0 (Kd.R k23 23 (o0.setCell ⟨l6,(b6:Int).toNat,none⟩ (.bool true)) w.heap.size (fun k_=>k_ ≠ d3) (.slice q5 b8.length p0) b8):=⟨by exact Kd.R_mono (Kd.R_far (p:=⟨l6,(b6:Int).toNat,none⟩) (Kd.R_types b0.out H8.out (by decide)) (fun _ hk=>hk.2) (.bool true)) (fun _ hk=>hk.1)⟩
        have y9:Aside0 (Kd.R Kd.bool 4 (o0.setCell ⟨l6,(b6:Int).toNat,none⟩ (.bool true)) w.heap.size (fun _=>True) (.slice (some ⟨l6,0,none⟩) c0.length n8) r5):=⟨by exact H9.out⟩
        have z0:Aside0 ((o0.setCell ⟨l6,(b6:Int).toNat,none⟩ (.bool true)).heap[e7]? = some (.cells #[.slice j8 e5.length j9,.slice (some n9) c1.length l5] 109 (0,0))):=⟨by refine blk_far ?_ (by have h_:=Kd.R_ne b1.out b2.out (by decide);intro e_;exact h_ (by rw [e_];rfl)) _;exact b2.out⟩
        have z1:Aside0 ((o0.setCell ⟨l6,(b6:Int).toNat,none⟩ (.bool true)).heap[i5]? = some (.cells #[.slice q5 b8.length p0] 35 (0,0))):=⟨by refine blk_far ?_ (by have h_:=Kd.R_ne b1.out b4.out (by decide);intro e_;exact h_ (by rw [e_];rfl)) _;exact b4.out⟩
        have z2:Aside0 ((o0.setCell ⟨l6,(b6:Int).toNat,none⟩ (.bool true)).heap[i2]? = some (.cells #[.slice (some ⟨l6,0,none⟩) c0.length n8] 115 (0,0))):=⟨by refine blk_far ?_ (by have h_:=Kd.R_ne b1.out b3.out (by decide);intro e_;exact h_ (by rw [e_];rfl)) _;exact b3.out⟩
        have z3:Aside0 ((o0.setCell ⟨l6,(b6:Int).toNat,none⟩ (.bool true)).heap[d3]? = some (.cells #[.int .i64 d0,.int .i64 d1] 23 (0,0))):=⟨by refine blk_far ?_ (by have h_:=Kd.R_ne b1.out b5.out (by decide);intro e_;exact h_ (by rw [e_];rfl)) _;exact b5.out⟩
        have z4:Aside0 (Below w.heap.size w (o0.setCell ⟨l6,(b6:Int).toNat,none⟩ (.bool true))):=⟨bl HB⟩
        generalize (o0.setCell ⟨l6,(b6:Int).toNat,none⟩ (.bool true)) = w160 at x9 y9 z0 z1 z2 z3 z4 ⊢
        have b0:=x9
        have b1:=y9
        have b2:=z0
        have b4:=z1
        have b3:=z2
        have b5:=z3
        have HB:=z4
        clear x9 y9 z0 z1 z2 z3 z4
        refine hK.out _ _ ⟨cz b3 0,cz b5 0,cz b5 1,cz b2 0,cz b2 1,((HB.out.cell (World.block_lt_of_cell? w _ m1)).trans m1),((HB.out.cell (World.block_lt_of_cell? w _ m0)).trans m0),cz b4 0⟩ (fun hHeld=>?_)
        clear hK K
        have z5:0 ≤ (b6:Int):=of_decide_eq_true (by assumption)
        have z6:(b6:Int) < ((b8.length:Int):Int):=of_decide_eq_true (by assumption)
        obtain ⟨n3,co143,t1,t2,I0,cl143,t3⟩:=Kd.R_form b0.out (by omega)
        (first | cases t1 | (injection t1 with ea_ en_ ec_;(first | subst ea_ | (injection ea_ with ea_;subst ea_));subst ec_;clear en_))
        have GB143:=A_ t2
        have I1:=A_ t3
        clear t2 I0 t3
        obtain ⟨ce143,z7,t4,o7,o8⟩:=Kd.R_elem b0.out z23 (b6:Int) z5 z6
        obtain rfl:=k23_openM t4
        have N0:World.cell? _ ⟨n3,(b6:Int).toNat * 2,none⟩ = some (.int .i64 ((rd_T23 b8 b6).f0)):=o7 0 _ rfl
        have N1:World.cell? _ ⟨n3,(b6:Int).toNat * 2 + 1,none⟩ = some (.int .i64 ((rd_T23 b8 b6).f1)):=o7 1 _ rfl
        have N2:World.frozen? _ ⟨n3,(b6:Int).toNat * 2,none⟩ = false:=o8 0
        have N3:World.frozen? _ ⟨n3,(b6:Int).toNat * 2 + 1,none⟩ = false:=o8 1
        clear z7 o7 o8 t4
        replace z5:=eq_true z5
        replace z6:=eq_true z6
        obtain ⟨ce162,q7,t5,q8,z8⟩:=Kd.R_elem b0.out z23 (b6:Int) (of_decide_eq_true (by assumption)) (by have h_:(b6:Int) < ((b8.length:Int):Int):=of_decide_eq_true (by assumption);first | exact h_ | (have e_:=(Kd.R_reads' b0.out).1;omega) | simpa using h_)
        obtain rfl:=k23_openM t5
        have q9:=(Kd.R_seg b0.out (b6:Int) (of_decide_eq_true (by assumption)) (by have h_:(b6:Int) < ((b8.length:Int):Int):=of_decide_eq_true (by assumption);first | exact h_ | (have e_:=(Kd.R_reads' b0.out).1;omega) | simpa using h_) (seg:=[.int .i64 o5,.int .i64 o6]) (j:=0) q7 q8 (show 2 ≤ 2 from by decide) (x':=(⟨o5,o6⟩:S23)) (k23_mkM _ _ _ (⟨o5,o6⟩:S23) ) (fun _ hk=>hk)).1
        rw [← G4.out] at q9
        have I2:=A_ q9
        clear q7 q8 z8 t5 q9
        refine pr 14 80 32767 ?_
        refine last_ (i:=15) (N:=none) (ba 16 65535) rfl rfl (by kernel_rfl) (by decide) (fun K hK=>?_)
        refine skip_ (w1:=?_) (by rfl) rfl ?_ ?_
        rotate_left
        ·go_simp
         rfl
        refine hK.out _ _ ?_
        clear hK K
        refine done_ (by kernel_rfl) ?_
        try go_wp2
        go_roundg k3
        case measure=>have:=o1.out;have:=o2.out;have:=s4.out;omega
        case rel=>exact ⟨(wrap64 (b6 + 1)),(G3),(r5),(d0),(d1),(.slice (some ⟨n3,0,none⟩) b8.length p0),(.slice (some ⟨l6,0,none⟩) c0.length n8),rfl,H',⟨by have:=o1.out;have:=o2.out;have:=s4.out;omega⟩,⟨by exact I2.out⟩,⟨by exact Kd.R_mono (Kd.R_far (p:=⟨n3,(b6:Int).toNat * 2 + 1,none⟩) (Kd.R_far (p:=⟨n3,(b6:Int).toNat * 2,none⟩) (Kd.R_types b1.out I1.out (by decide)) (fun _ hk=>hk.2) (.int .i64 o5)) (fun _ hk=>hk.2) (.int .i64 o6)) (fun _ hk=>trivial)⟩,⟨by refine blk_far ?_ (by have h_:=Kd.R_ne b0.out b2.out (by decide);intro e_;exact h_ (by rw [e_];rfl)) _;refine blk_far ?_ (by have h_:=Kd.R_ne b0.out b2.out (by decide);intro e_;exact h_ (by rw [e_];rfl)) _;exact b2.out⟩,⟨by refine blk_far ?_ (by have h_:=Kd.R_ne b0.out b4.out (by decide);intro e_;exact h_ (by rw [e_];rfl)) _;refine blk_far ?_ (by have h_:=Kd.R_ne b0.out b4.out (by decide);intro e_;exact h_ (by rw [e_];rfl)) _;exact b4.out⟩,⟨by refine blk_far ?_ (by have h_:=Kd.R_ne b0.out b3.out (by decide);intro e_;exact h_ (by rw [e_];rfl)) _;refine blk_far ?_ (by have h_:=Kd.R_ne b0.out b3.out (by decide);intro e_;exact h_ (by rw [e_];rfl)) _;exact b3.out⟩,⟨by refine blk_far ?_ (by have h_:=Kd.R_away b0.out (fun _ hk=>hk);intro e_;exact h_ (by rw [e_];rfl)) _;refine blk_far ?_ (by have h_:=Kd.R_away b0.out (fun _ hk=>hk);intro e_;exact h_ (by rw [e_];rfl)) _;exact b5.out⟩,⟨bl HB⟩⟩
     rw [if_pos z9] at H
     have C8:=decide_eq_true z9
     clear z9
     replace H:=Option.bind_eq_some_iff.mp H
     obtain ⟨⟨h9,i3,bb8⟩,A350,H⟩:=H
     dsimp only at H
     have N4:=A_ A350
     clear A350
     by_cases N5:bb8 = true
     case neg =>
      replace N5:=Bool.eq_false_iff.mpr N5
      subst N5
      rw [if_neg (show ¬ (false = true) by decide)] at H
      have H':=A_ H
      clear H
      have bb9:=h3.out
      have bc0:=e2.out
      have bc1:=h5.out
      have bc2:=e6.out
      have bc3:=d6.out
      have bc4:=e9.out
      have I3:wr.cell? ⟨i5,0,none⟩ = some (e4):=cz b4 0
      have I4:=blk_frozen b4.out 0
      have bc5:=h4.out
      have bc6:=e0.out
      have bc7:=d7.out
      have bc8:=h0.out
      have I5:wr.cell? ⟨i2,0,none⟩ = some (.slice m6 b7.length m7):=cz b3 0
      have I6:=blk_frozen b3.out 0
      have bc9:=d5.out
      have bd0:=e8.out
      have I7:wr.cell? ⟨e7,0,none⟩ = some (.slice j8 e5.length j9):=cz b2 0
      have I8:wr.cell? ⟨e7,1,none⟩ = some (.slice l7 c1.length l5):=cz b2 1
      have I9:=blk_frozen b2.out 0
      have J0:=blk_frozen b2.out 1
      obtain ⟨Ao111,co111,J1⟩:=Kd.R_slice b0.out
      subst J1
      go_wp2_with (first | (go_at_call 103;(with_reducible refine (shares_net_fair_1.calls k2 i9 _ _ e5 _ _ c1 _ _ b7 _ _ d4 h9 i3 false _ e7 i2 i5 b2.out b3.out b4.out e0.out e2.out e6.out ?side1 ?side2 ?side3 ?side4 ?side5 ?side6 ?side7 ?side8 N4.out).mono ?_);(case side1=>exact cB n5 HB);(case side2=>exact n6.out);(case side3=>exact cB m9 HB);(case side4=>exact n7.out);(case side5=>repeat (first | exact (Kd.R_reads' b1.out).2.2 | (with_reducible refine Kd.C_alloc ?_ _) | (with_reducible refine Kd.C_drewN ?_ _) | (with_reducible refine Kd.C_drew ?_)));(case side6=>exact (Kd.R_reads' b1.out).2.1);(case side7=>repeat (first | exact (Kd.R_reads' b0.out).2.2 | (with_reducible refine Kd.C_alloc ?_ _) | (with_reducible refine Kd.C_drewN ?_ _) | (with_reducible refine Kd.C_drew ?_)));(case side8=>exact (Kd.R_reads' b0.out).2.1);rintro e w112 ⟨rfl,hb⟩;replace b0:=rB b0 hb;replace b1:=rB b1 hb;replace b2:=kB b2 hb;replace b4:=kB b4 hb;replace b3:=kB b3 hb;replace b5:=kB b5 hb;replace HB:=bB HB hb;(try clear hb)) | ((with_reducible refine gate_dst (N:=9) rfl ?_);refine bx 9 #[.int .i64 0,.int .i64 0] 23 ?_;intro b9 hg J2 hbox hb;have d9:=A_ hbox;have n4:=gw hg HB;have r0:=n4;have h6:=nl hg b2;have i6:=ng hg b2;have h7:=nl hg b4;have i7:=ng hg b4;have h8:=nl hg b3;have i8:=ng hg b3;have e3:=nl hg b5;have d2:=ng hg b5;replace b0:=A_ (Kd.R_below (Kd.R_elderB b0.out b9 (Nat.le_of_eq hg.symm)) hb);replace b1:=rB b1 hb;replace b2:=kB b2 hb;replace b4:=kB b4 hb;replace b3:=kB b3 hb;replace b5:=kB b5 hb;replace HB:=bB HB hb;clear hb hbox hg;have bd1:=i6.out;have bd2:=h6.out;have bd3:=i7.out;have bd4:=h7.out;have bd5:=i8.out;have bd6:=h8.out;have bd7:=d2.out;have bd8:=e3.out;have J3:J2.cell? ⟨b9,0,none⟩ = some (.int .i64 0):=cz d9 0;have J4:J2.cell? ⟨b9,1,none⟩ = some (.int .i64 0):=cz d9 1;have J5:=blk_frozen d9.out 0;have J6:=blk_frozen d9.out 1))
      go_roundg k2
      case measure=>have:=o1.out;have:=o2.out;omega
      case rel=>exact ⟨(l8),(wrap64 (i9 + 1)),(e1),(d8),rfl,rfl,H',⟨by have:=o1.out;have:=o2.out;omega⟩,⟨by exact Kd.R_mono (Kd.R_far (p:=⟨b9,1,none⟩) (Kd.R_far (p:=⟨b9,0,none⟩) (Kd.R_mono b0.out (fun k_ hk=>(⟨hk,hk.2⟩:_ ∧ k_ ≠ b9))) (fun _ hk=>hk.2) (.int .i64 h9)) (fun _ hk=>hk.2) (.int .i64 i3)) (fun _ hk=>hk.1.1)⟩,⟨by exact Kd.R_mono (Kd.R_far (p:=⟨b9,1,none⟩) (Kd.R_far (p:=⟨b9,0,none⟩) (Kd.R_types b1.out d9.out (by decide)) (fun _ hk=>hk.2) (.int .i64 h9)) (fun _ hk=>hk.2) (.int .i64 i3)) (fun _ hk=>trivial)⟩,⟨by refine blk_far ?_ h6.out _;refine blk_far ?_ h6.out _;exact b2.out⟩,⟨by refine blk_far ?_ h7.out _;refine blk_far ?_ h7.out _;exact b4.out⟩,⟨by refine blk_far ?_ h8.out _;refine blk_far ?_ h8.out _;exact b3.out⟩,⟨by refine blk_far ?_ e3.out _;refine blk_far ?_ e3.out _;exact b5.out⟩,⟨bl HB⟩⟩
     subst N5
     rw [if_pos rfl] at H
     by_cases A0:l8 < 0
     ·rw [if_pos A0] at H
      have J7:=decide_eq_true A0
      clear A0
      have H':=A_ H
      clear H
      have hnb38:=h3.out
      have hnc38:=e2.out
      have hnb39:=h5.out
      have hnc39:=e6.out
      have hnb40:=d6.out
      have hnc40:=e9.out
      have N6:wr.cell? ⟨i5,0,none⟩ = some (e4):=cz b4 0
      have N7:=blk_frozen b4.out 0
      have hnb42:=h4.out
      have hnc42:=e0.out
      have hnb43:=d7.out
      have hnc43:=h0.out
      have N8:wr.cell? ⟨i2,0,none⟩ = some (.slice m6 b7.length m7):=cz b3 0
      have N9:=blk_frozen b3.out 0
      have hnb45:=d5.out
      have hnc45:=e8.out
      have O0:wr.cell? ⟨e7,0,none⟩ = some (.slice j8 e5.length j9):=cz b2 0
      have O1:wr.cell? ⟨e7,1,none⟩ = some (.slice l7 c1.length l5):=cz b2 1
      have O2:=blk_frozen b2.out 0
      have O3:=blk_frozen b2.out 1
      obtain ⟨J8,J9,bd9⟩:=Kd.R_slice b0.out
      subst bd9
      try go_wp2_with (first | (go_at_call 103;(with_reducible refine (shares_net_fair_1.calls k2 i9 _ _ e5 _ _ c1 _ _ b7 _ _ d4 h9 i3 true _ e7 i2 i5 b2.out b3.out b4.out e0.out e2.out e6.out ?side1 ?side2 ?side3 ?side4 ?side5 ?side6 ?side7 ?side8 N4.out).mono ?_);(case side1=>exact cB n5 HB);(case side2=>exact n6.out);(case side3=>exact cB m9 HB);(case side4=>exact n7.out);(case side5=>repeat (first | exact (Kd.R_reads' b1.out).2.2 | (with_reducible refine Kd.C_alloc ?_ _) | (with_reducible refine Kd.C_drewN ?_ _) | (with_reducible refine Kd.C_drew ?_)));(case side6=>exact (Kd.R_reads' b1.out).2.1);(case side7=>repeat (first | exact (Kd.R_reads' b0.out).2.2 | (with_reducible refine Kd.C_alloc ?_ _) | (with_reducible refine Kd.C_drewN ?_ _) | (with_reducible refine Kd.C_drew ?_)));(case side8=>exact (Kd.R_reads' b0.out).2.1);rintro e w48 ⟨rfl,hb⟩;replace b0:=rB b0 hb;replace b1:=rB b1 hb;replace b2:=kB b2 hb;replace b4:=kB b4 hb;replace b3:=kB b3 hb;replace b5:=kB b5 hb;replace HB:=bB HB hb;(try clear hb)) | ((with_reducible refine gate_dst (N:=9) rfl ?_);refine bx 9 #[.int .i64 0,.int .i64 0] 23 ?_;intro b9 hg r1 hbox hb;have d9:=A_ hbox;have n4:=gw hg HB;have r0:=n4;have h6:=nl hg b2;have i6:=ng hg b2;have h7:=nl hg b4;have i7:=ng hg b4;have h8:=nl hg b3;have i8:=ng hg b3;have e3:=nl hg b5;have d2:=ng hg b5;replace b0:=A_ (Kd.R_below (Kd.R_elderB b0.out b9 (Nat.le_of_eq hg.symm)) hb);replace b1:=rB b1 hb;replace b2:=kB b2 hb;replace b4:=kB b4 hb;replace b3:=kB b3 hb;replace b5:=kB b5 hb;replace HB:=bB HB hb;clear hb hbox hg;have hnb50:=i6.out;have hnc50:=h6.out;have hnb51:=i7.out;have hnc51:=h7.out;have hnb52:=i8.out;have hnc52:=h8.out;have hnb53:=d2.out;have hnc53:=e3.out;have O4:r1.cell? ⟨b9,0,none⟩ = some (.int .i64 0):=cz d9 0;have O5:r1.cell? ⟨b9,1,none⟩ = some (.int .i64 0):=cz d9 1;have O6:=blk_frozen d9.out 0;have O7:=blk_frozen d9.out 1))
      have x9:Aside0 (Kd.R k23 23 ((r1.setCell ⟨b9,0,none⟩ (.int .i64 h9)).setCell ⟨b9,1,none⟩ (.int .i64 i3)) w.heap.size (fun k_=>k_ ≠ d3 ∧ k_ ≠ b9) (.slice J8 d4.length J9) d4):=⟨by exact Kd.R_mono (Kd.R_far (p:=⟨b9,1,none⟩) (Kd.R_far (p:=⟨b9,0,none⟩) (Kd.R_mono b0.out (fun k_ hk=>(⟨hk,hk.2⟩:_ ∧ k_ ≠ b9))) (fun _ hk=>hk.2) (.int .i64 h9)) (fun _ hk=>hk.2) (.int .i64 i3)) (fun _ hk=>⟨hk.1.1,hk.1.2⟩)⟩
      have y9:Aside0 (Kd.R Kd.bool 4 ((r1.setCell ⟨b9,0,none⟩ (.int .i64 h9)).setCell ⟨b9,1,none⟩ (.int .i64 i3)) w.heap.size (fun _=>True) (.slice m6 b7.length m7) b7):=⟨by exact Kd.R_mono (Kd.R_far (p:=⟨b9,1,none⟩) (Kd.R_far (p:=⟨b9,0,none⟩) (Kd.R_types b1.out d9.out (by decide)) (fun _ hk=>hk.2) (.int .i64 h9)) (fun _ hk=>hk.2) (.int .i64 i3)) (fun _ hk=>trivial)⟩
      have z0:Aside0 (((r1.setCell ⟨b9,0,none⟩ (.int .i64 h9)).setCell ⟨b9,1,none⟩ (.int .i64 i3)).heap[e7]? = some (.cells #[.slice j8 e5.length j9,.slice l7 c1.length l5] 109 (0,0))):=⟨by refine blk_far ?_ h6.out _;refine blk_far ?_ h6.out _;exact b2.out⟩
      have z1:Aside0 (((r1.setCell ⟨b9,0,none⟩ (.int .i64 h9)).setCell ⟨b9,1,none⟩ (.int .i64 i3)).heap[i5]? = some (.cells #[.slice J8 d4.length J9] 35 (0,0))):=⟨by refine blk_far ?_ h7.out _;refine blk_far ?_ h7.out _;exact b4.out⟩
      have z2:Aside0 (((r1.setCell ⟨b9,0,none⟩ (.int .i64 h9)).setCell ⟨b9,1,none⟩ (.int .i64 i3)).heap[i2]? = some (.cells #[.slice m6 b7.length m7] 115 (0,0))):=⟨by refine blk_far ?_ h8.out _;refine blk_far ?_ h8.out _;exact b3.out⟩
      have z3:Aside0 (((r1.setCell ⟨b9,0,none⟩ (.int .i64 h9)).setCell ⟨b9,1,none⟩ (.int .i64 i3)).heap[d3]? = some (.cells #[.int .i64 e1,.int .i64 d8] 23 (0,0))):=⟨by refine blk_far ?_ e3.out _;refine blk_far ?_ e3.out _;exact b5.out⟩
      have z4:Aside0 (((r1.setCell ⟨b9,0,none⟩ (.int .i64 h9)).setCell ⟨b9,1,none⟩ (.int .i64 i3)).heap[b9]? = some (.cells #[.int .i64 h9,.int .i64 i3] 23 (0,0))):=⟨by refine blk_put (cs:=#[.int .i64 h9,.int .i64 0]) ?_ 1 _ rfl;refine blk_put (cs:=#[.int .i64 0,.int .i64 0]) ?_ 0 _ rfl;exact d9.out⟩
      have n7_:Aside0 (Below w.heap.size w ((r1.setCell ⟨b9,0,none⟩ (.int .i64 h9)).setCell ⟨b9,1,none⟩ (.int .i64 i3))):=⟨bl HB⟩
      generalize ((r1.setCell ⟨b9,0,none⟩ (.int .i64 h9)).setCell ⟨b9,1,none⟩ (.int .i64 i3)) = w55 at x9 y9 z0 z1 z2 z3 z4 n7_ ⊢
      have b0:=x9
      have b1:=y9
      have b2:=z0
      have b4:=z1
      have b3:=z2
      have b5:=z3
      have d9:=z4
      have HB:=n7_
      clear x9 y9 z0 z1 z2 z3 z4 n7_
      replace b0:=rD b0
      replace b1:=rD b1
      replace b2:=kD b2
      replace b4:=kD b4
      replace b3:=kD b3
      replace b5:=kD b5
      replace d9:=kD d9
      replace HB:=bD HB
      refine start_ (n:=4) (S:=fun w'=>w'.cell? ⟨b9,0,none⟩ = some (.int .i64 h9) ∧ w'.cell? ⟨b9,1,none⟩ = some (.int .i64 i3)) (ds:=[]) (ba 4 0) (by kernel_rfl) rfl rfl ⟨cz d9 0,cz d9 1⟩ (fun hHeld=>?_)
      generalize w55.drew = w56 at b0 b1 b2 b4 b3 b5 d9 HB hHeld ⊢
      refine pr 0 47 1 ?_
      refine pr 2 6 5 ?_
      refine tr 1 48 7 hHeld ?_
      refine one_ (i:=3) (N:=none) (ba 4 15) rfl rfl (by kernel_rfl) (by decide) (fun K hK=>?_)
      have hs57:w56.cell? ⟨d3,0,none⟩ = some (.int .i64 e1):=cz b5 0
      have hfs57:=blk_frozen b5.out 0
      have O8:=d5.out
      have O9:=d6.out
      have P0:=d7.out
      have P1:=d2.out
      have P2:=e8.out
      have P3:=e9.out
      have P4:=h0.out
      have P5:=e3.out
      have hs58:w56.cell? ⟨d3,1,none⟩ = some (.int .i64 d8):=cz b5 1
      have hfs58:=blk_frozen b5.out 1
      have P6:=d5.out
      have P7:=d6.out
      have P8:=d7.out
      have P9:=d2.out
      have Q0:=e8.out
      have Q1:=e9.out
      have Q2:=h0.out
      have Q3:=e3.out
      refine skip_ (w1:=?_) (by rfl) rfl ?_ ?_
      rotate_left
      ·go_simp
       rfl
      refine hK.out _ _ ⟨((cell_far (p:=⟨d3,_,none⟩) d2.out _).trans (((cell_far (p:=⟨d3,_,none⟩) d2.out _).trans (hHeld.1)))),((cell_far (p:=⟨d3,_,none⟩) d2.out _).trans (((cell_far (p:=⟨d3,_,none⟩) d2.out _).trans (hHeld.2))))⟩ (fun hHeld=>?_)
      clear hK K
      refine done_ (by kernel_rfl) ?_
      try go_wp2
      go_roundg k2
      case measure=>have:=o1.out;have:=o2.out;omega
      case rel=>exact ⟨(i9),(wrap64 (i9 + 1)),(h9),(i3),rfl,rfl,H',⟨by have:=o1.out;have:=o2.out;omega⟩,⟨by exact Kd.R_mono (Kd.R_far (p:=⟨d3,1,none⟩) (Kd.R_far (p:=⟨d3,0,none⟩) (Kd.R_mono b0.out (fun k_ hk=>(⟨hk,hk.1⟩:_ ∧ k_ ≠ d3))) (fun _ hk=>hk.2) (.int .i64 h9)) (fun _ hk=>hk.2) (.int .i64 i3)) (fun _ hk=>hk.1.1)⟩,⟨by exact Kd.R_mono (Kd.R_far (p:=⟨d3,1,none⟩) (Kd.R_far (p:=⟨d3,0,none⟩) (Kd.R_types b1.out b5.out (by decide)) (fun _ hk=>hk.2) (.int .i64 h9)) (fun _ hk=>hk.2) (.int .i64 i3)) (fun _ hk=>trivial)⟩,⟨by refine blk_far ?_ d5.out _;refine blk_far ?_ d5.out _;exact b2.out⟩,⟨by refine blk_far ?_ d6.out _;refine blk_far ?_ d6.out _;exact b4.out⟩,⟨by refine blk_far ?_ d7.out _;refine blk_far ?_ d7.out _;exact b3.out⟩,⟨by refine blk_put (cs:=#[.int .i64 h9,.int .i64 d8]) ?_ 1 _ rfl;refine blk_put (cs:=#[.int .i64 e1,.int .i64 d8]) ?_ 0 _ rfl;exact b5.out⟩,⟨bl HB⟩⟩
     rw [if_neg A0] at H
     have J7:=decide_eq_false A0
     clear A0
     replace H:=Option.bind_eq_some_iff.mp H
     obtain ⟨p3,K0,H⟩:=H
     replace H:(if p3 < 0 then (shares_net_fair.l1 k2 i9 (e5.length:Int) (wrap64 (i9 + 1)) e5 c1 d4 b7 h9 i3) else (shares_net_fair.l1 k2 l8 (e5.length:Int) (wrap64 (i9 + 1)) e5 c1 d4 b7 e1 d8)) = some r:=H
     have A59:=A_ K0
     clear K0
     by_cases A1:p3 < 0
     case neg =>
      rw [if_neg A1] at H
      have K1:=decide_eq_false A1
      clear A1
      have H':=A_ H
      clear H
      have hnb83:=h3.out
      have hnc83:=e2.out
      have hnb84:=h5.out
      have hnc84:=e6.out
      have hnb85:=d6.out
      have hnc85:=e9.out
      have Q4:wr.cell? ⟨i5,0,none⟩ = some (e4):=cz b4 0
      have Q5:=blk_frozen b4.out 0
      have hnb87:=h4.out
      have hnc87:=e0.out
      have hnb88:=d7.out
      have hnc88:=h0.out
      have Q6:wr.cell? ⟨i2,0,none⟩ = some (.slice m6 b7.length m7):=cz b3 0
      have Q7:=blk_frozen b3.out 0
      have hnb90:=d5.out
      have hnc90:=e8.out
      have Q8:wr.cell? ⟨e7,0,none⟩ = some (.slice j8 e5.length j9):=cz b2 0
      have Q9:wr.cell? ⟨e7,1,none⟩ = some (.slice l7 c1.length l5):=cz b2 1
      have R0:=blk_frozen b2.out 0
      have R1:=blk_frozen b2.out 1
      obtain ⟨Ao92,co92,eo92⟩:=Kd.R_slice b0.out
      subst eo92
      go_wp2_with (first | (go_at_call 103;(with_reducible refine (shares_net_fair_1.calls k2 i9 _ _ e5 _ _ c1 _ _ b7 _ _ d4 h9 i3 true _ e7 i2 i5 b2.out b3.out b4.out e0.out e2.out e6.out ?side1 ?side2 ?side3 ?side4 ?side5 ?side6 ?side7 ?side8 N4.out).mono ?_);(case side1=>exact cB n5 HB);(case side2=>exact n6.out);(case side3=>exact cB m9 HB);(case side4=>exact n7.out);(case side5=>repeat (first | exact (Kd.R_reads' b1.out).2.2 | (with_reducible refine Kd.C_alloc ?_ _) | (with_reducible refine Kd.C_drewN ?_ _) | (with_reducible refine Kd.C_drew ?_)));(case side6=>exact (Kd.R_reads' b1.out).2.1);(case side7=>repeat (first | exact (Kd.R_reads' b0.out).2.2 | (with_reducible refine Kd.C_alloc ?_ _) | (with_reducible refine Kd.C_drewN ?_ _) | (with_reducible refine Kd.C_drew ?_)));(case side8=>exact (Kd.R_reads' b0.out).2.1);rintro e w93 ⟨rfl,hb⟩;replace b0:=rB b0 hb;replace b1:=rB b1 hb;replace b2:=kB b2 hb;replace b4:=kB b4 hb;replace b3:=kB b3 hb;replace b5:=kB b5 hb;replace HB:=bB HB hb;(try clear hb)) | ((with_reducible refine gate_dst (N:=9) rfl ?_);refine bx 9 #[.int .i64 0,.int .i64 0] 23 ?_;intro b9 hg R2 hbox hb;have d9:=A_ hbox;have n4:=gw hg HB;have r0:=n4;have h6:=nl hg b2;have i6:=ng hg b2;have h7:=nl hg b4;have i7:=ng hg b4;have h8:=nl hg b3;have i8:=ng hg b3;have e3:=nl hg b5;have d2:=ng hg b5;replace b0:=A_ (Kd.R_below (Kd.R_elderB b0.out b9 (Nat.le_of_eq hg.symm)) hb);replace b1:=rB b1 hb;replace b2:=kB b2 hb;replace b4:=kB b4 hb;replace b3:=kB b3 hb;replace b5:=kB b5 hb;replace HB:=bB HB hb;clear hb hbox hg;have hnb95:=i6.out;have hnc95:=h6.out;have hnb96:=i7.out;have hnc96:=h7.out;have hnb97:=i8.out;have hnc97:=h8.out;have hnb98:=d2.out;have hnc98:=e3.out;have R3:R2.cell? ⟨b9,0,none⟩ = some (.int .i64 0):=cz d9 0;have R4:R2.cell? ⟨b9,1,none⟩ = some (.int .i64 0):=cz d9 1;have R5:=blk_frozen d9.out 0;have R6:=blk_frozen d9.out 1;have K2:R2.cell? ⟨d3,0,none⟩ = some (.int .i64 e1):=cz b5 0;have K3:R2.cell? ⟨d3,1,none⟩ = some (.int .i64 d8):=cz b5 1;have K4:=blk_frozen b5.out 0;have K5:=blk_frozen b5.out 1) | (go_at_call 85;(with_reducible refine (shares_compare.calls k2 h9 i3 e1 d8 p3 _ A59.out).mono ?_);rintro e w101 ⟨rfl,hb⟩;replace b0:=A_ (Kd.R_below (by exact (Kd.R_mono (Kd.R_far (p:=⟨b9,1,none⟩) (Kd.R_far (p:=⟨b9,0,none⟩) (Kd.R_mono b0.out (fun k_ hk=>(⟨hk,hk.2⟩:_ ∧ k_ ≠ b9))) (fun _ hk=>hk.2) (.int .i64 h9)) (fun _ hk=>hk.2) (.int .i64 i3)) (fun _ h_=>h_.1))) hb);replace b1:=A_ (Kd.R_below (by exact (Kd.R_mono (Kd.R_far (p:=⟨b9,1,none⟩) (Kd.R_far (p:=⟨b9,0,none⟩) (Kd.R_types b1.out d9.out (by decide)) (fun _ hk=>hk.2) (.int .i64 h9)) (fun _ hk=>hk.2) (.int .i64 i3)) (fun _ h_=>h_.1))) hb);replace b2:=kB b2 hb;replace b4:=kB b4 hb;replace b3:=kB b3 hb;replace b5:=kB b5 hb;replace d9:=A_ (blk_below (g:=b9) (o:=.cells #[.int .i64 h9,.int .i64 i3] 23 (0,0)) (by refine blk_put (cs:=#[.int .i64 h9,.int .i64 0]) ?_ 1 _ rfl;refine blk_put (cs:=#[.int .i64 0,.int .i64 0]) ?_ 0 _ rfl;exact d9.out) hb);replace HB:=bB HB hb;(try clear hb)))
      go_roundg k2
      case measure=>have:=o1.out;have:=o2.out;omega
      case rel=>exact ⟨(l8),(wrap64 (i9 + 1)),(e1),(d8),rfl,rfl,H',⟨by have:=o1.out;have:=o2.out;omega⟩,⟨by exact Kd.R_mono b0.out (fun _ hk=>hk.1)⟩,⟨by exact b1.out⟩,⟨by exact b2.out⟩,⟨by exact b4.out⟩,⟨by exact b3.out⟩,⟨by exact b5.out⟩,⟨bl HB⟩⟩
     rw [if_pos A1] at H
     have K1:=decide_eq_true A1
     clear A1
     have H':=A_ H
     clear H
     have hnb61:=h3.out
     have hnc61:=e2.out
     have hnb62:=h5.out
     have hnc62:=e6.out
     have hnb63:=d6.out
     have hnc63:=e9.out
     have R7:wr.cell? ⟨i5,0,none⟩ = some (e4):=cz b4 0
     have R8:=blk_frozen b4.out 0
     have hnb65:=h4.out
     have hnc65:=e0.out
     have hnb66:=d7.out
     have hnc66:=h0.out
     have R9:wr.cell? ⟨i2,0,none⟩ = some (.slice m6 b7.length m7):=cz b3 0
     have S0:=blk_frozen b3.out 0
     have hnb68:=d5.out
     have hnc68:=e8.out
     have S1:wr.cell? ⟨e7,0,none⟩ = some (.slice j8 e5.length j9):=cz b2 0
     have S2:wr.cell? ⟨e7,1,none⟩ = some (.slice l7 c1.length l5):=cz b2 1
     have S3:=blk_frozen b2.out 0
     have S4:=blk_frozen b2.out 1
     obtain ⟨Ao70,co70,eo70⟩:=Kd.R_slice b0.out
     subst eo70
     try go_wp2_with (first | (go_at_call 103;(with_reducible refine (shares_net_fair_1.calls k2 i9 _ _ e5 _ _ c1 _ _ b7 _ _ d4 h9 i3 true _ e7 i2 i5 b2.out b3.out b4.out e0.out e2.out e6.out ?side1 ?side2 ?side3 ?side4 ?side5 ?side6 ?side7 ?side8 N4.out).mono ?_);(case side1=>exact cB n5 HB);(case side2=>exact n6.out);(case side3=>exact cB m9 HB);(case side4=>exact n7.out);(case side5=>repeat (first | exact (Kd.R_reads' b1.out).2.2 | (with_reducible refine Kd.C_alloc ?_ _) | (with_reducible refine Kd.C_drewN ?_ _) | (with_reducible refine Kd.C_drew ?_)));(case side6=>exact (Kd.R_reads' b1.out).2.1);(case side7=>repeat (first | exact (Kd.R_reads' b0.out).2.2 | (with_reducible refine Kd.C_alloc ?_ _) | (with_reducible refine Kd.C_drewN ?_ _) | (with_reducible refine Kd.C_drew ?_)));(case side8=>exact (Kd.R_reads' b0.out).2.1);rintro e w71 ⟨rfl,hb⟩;replace b0:=rB b0 hb;replace b1:=rB b1 hb;replace b2:=kB b2 hb;replace b4:=kB b4 hb;replace b3:=kB b3 hb;replace b5:=kB b5 hb;replace HB:=bB HB hb;(try clear hb)) | ((with_reducible refine gate_dst (N:=9) rfl ?_);refine bx 9 #[.int .i64 0,.int .i64 0] 23 ?_;intro b9 hg S5 hbox hb;have d9:=A_ hbox;have n4:=gw hg HB;have r0:=n4;have h6:=nl hg b2;have i6:=ng hg b2;have h7:=nl hg b4;have i7:=ng hg b4;have h8:=nl hg b3;have i8:=ng hg b3;have e3:=nl hg b5;have d2:=ng hg b5;replace b0:=A_ (Kd.R_below (Kd.R_elderB b0.out b9 (Nat.le_of_eq hg.symm)) hb);replace b1:=rB b1 hb;replace b2:=kB b2 hb;replace b4:=kB b4 hb;replace b3:=kB b3 hb;replace b5:=kB b5 hb;replace HB:=bB HB hb;clear hb hbox hg;have hnb73:=i6.out;have hnc73:=h6.out;have hnb74:=i7.out;have hnc74:=h7.out;have hnb75:=i8.out;have hnc75:=h8.out;have hnb76:=d2.out;have hnc76:=e3.out;have S6:S5.cell? ⟨b9,0,none⟩ = some (.int .i64 0):=cz d9 0;have S7:S5.cell? ⟨b9,1,none⟩ = some (.int .i64 0):=cz d9 1;have S8:=blk_frozen d9.out 0;have S9:=blk_frozen d9.out 1;have T0:S5.cell? ⟨d3,0,none⟩ = some (.int .i64 e1):=cz b5 0;have U0:S5.cell? ⟨d3,1,none⟩ = some (.int .i64 d8):=cz b5 1;have U1:=blk_frozen b5.out 0;have U2:=blk_frozen b5.out 1) | (go_at_call 85;(with_reducible refine (shares_compare.calls k2 h9 i3 e1 d8 p3 _ A59.out).mono ?_);rintro e w79 ⟨rfl,hb⟩;replace b0:=A_ (Kd.R_below (by exact (Kd.R_mono (Kd.R_far (p:=⟨b9,1,none⟩) (Kd.R_far (p:=⟨b9,0,none⟩) (Kd.R_mono b0.out (fun k_ hk=>(⟨hk,hk.2⟩:_ ∧ k_ ≠ b9))) (fun _ hk=>hk.2) (.int .i64 h9)) (fun _ hk=>hk.2) (.int .i64 i3)) (fun _ h_=>h_.1))) hb);replace b1:=A_ (Kd.R_below (by exact (Kd.R_mono (Kd.R_far (p:=⟨b9,1,none⟩) (Kd.R_far (p:=⟨b9,0,none⟩) (Kd.R_types b1.out d9.out (by decide)) (fun _ hk=>hk.2) (.int .i64 h9)) (fun _ hk=>hk.2) (.int .i64 i3)) (fun _ h_=>h_.1))) hb);replace b2:=kB b2 hb;replace b4:=kB b4 hb;replace b3:=kB b3 hb;replace b5:=kB b5 hb;replace d9:=A_ (blk_below (g:=b9) (o:=.cells #[.int .i64 h9,.int .i64 i3] 23 (0,0)) (by refine blk_put (cs:=#[.int .i64 h9,.int .i64 0]) ?_ 1 _ rfl;refine blk_put (cs:=#[.int .i64 0,.int .i64 0]) ?_ 0 _ rfl;exact d9.out) hb);replace HB:=bB HB hb;(try clear hb)))
     replace b0:=rD b0
     replace b1:=rD b1
     replace b2:=kD b2
     replace b4:=kD b4
     replace b3:=kD b3
     replace b5:=kD b5
     replace d9:=kD d9
     replace HB:=bD HB
     refine start_ (n:=4) (S:=fun w'=>w'.cell? ⟨b9,0,none⟩ = some (.int .i64 h9) ∧ w'.cell? ⟨b9,1,none⟩ = some (.int .i64 i3)) (ds:=[]) (ba 4 0) (by kernel_rfl) rfl rfl ⟨cz d9 0,cz d9 1⟩ (fun hHeld=>?_)
     generalize w79.drew = w80 at b0 b1 b2 b4 b3 b5 d9 HB hHeld ⊢
     refine pr 0 47 1 ?_
     refine pr 2 6 5 ?_
     refine tr 1 48 7 hHeld ?_
     refine one_ (i:=3) (N:=none) (ba 4 15) rfl rfl (by kernel_rfl) (by decide) (fun K hK=>?_)
     have hs81:w80.cell? ⟨d3,0,none⟩ = some (.int .i64 e1):=cz b5 0
     have hfs81:=blk_frozen b5.out 0
     have U3:=d5.out
     have U4:=d6.out
     have U5:=d7.out
     have U6:=d2.out
     have U7:=e8.out
     have U8:=e9.out
     have U9:=h0.out
     have V0:=e3.out
     have hs82:w80.cell? ⟨d3,1,none⟩ = some (.int .i64 d8):=cz b5 1
     have hfs82:=blk_frozen b5.out 1
     have V1:=d5.out
     have V2:=d6.out
     have V3:=d7.out
     have V4:=d2.out
     have V5:=e8.out
     have V6:=e9.out
     have V7:=h0.out
     have V8:=e3.out
     refine skip_ (w1:=?_) (by rfl) rfl ?_ ?_
     rotate_left
     ·go_simp
      rfl
     refine hK.out _ _ ⟨((cell_far (p:=⟨d3,_,none⟩) d2.out _).trans (((cell_far (p:=⟨d3,_,none⟩) d2.out _).trans (hHeld.1)))),((cell_far (p:=⟨d3,_,none⟩) d2.out _).trans (((cell_far (p:=⟨d3,_,none⟩) d2.out _).trans (hHeld.2))))⟩ (fun hHeld=>?_)
     clear hK K
     refine done_ (by kernel_rfl) ?_
     try go_wp2
     go_roundg k2
     case measure=>have:=o1.out;have:=o2.out;omega
     case rel=>exact ⟨(i9),(wrap64 (i9 + 1)),(h9),(i3),rfl,rfl,H',⟨by have:=o1.out;have:=o2.out;omega⟩,⟨by exact Kd.R_mono (Kd.R_far (p:=⟨d3,1,none⟩) (Kd.R_far (p:=⟨d3,0,none⟩) (Kd.R_mono b0.out (fun k_ hk=>(⟨hk,hk.1⟩:_ ∧ k_ ≠ d3))) (fun _ hk=>hk.2) (.int .i64 h9)) (fun _ hk=>hk.2) (.int .i64 i3)) (fun _ hk=>hk.1.1)⟩,⟨by exact Kd.R_mono (Kd.R_far (p:=⟨d3,1,none⟩) (Kd.R_far (p:=⟨d3,0,none⟩) (Kd.R_types b1.out b5.out (by decide)) (fun _ hk=>hk.2) (.int .i64 h9)) (fun _ hk=>hk.2) (.int .i64 i3)) (fun _ hk=>trivial)⟩,⟨by refine blk_far ?_ d5.out _;refine blk_far ?_ d5.out _;exact b2.out⟩,⟨by refine blk_far ?_ d6.out _;refine blk_far ?_ d6.out _;exact b4.out⟩,⟨by refine blk_far ?_ d7.out _;refine blk_far ?_ d7.out _;exact b3.out⟩,⟨by refine blk_put (cs:=#[.int .i64 h9,.int .i64 d8]) ?_ 1 _ rfl;refine blk_put (cs:=#[.int .i64 e1,.int .i64 d8]) ?_ 0 _ rfl;exact b5.out⟩,⟨bl HB⟩⟩
def shares_net_load.l0:Nat → List (S23) → Int → Int → Int → List Int → List (S45) → Int → Int → Option (Int × Int)
 | 0,_,_,_,_,_,_,_,_=>none
 | k + 1,x1,x2,o8,h2,d9,e0,e1,e2=>if h2 < o8 then ((shares_net_has.f k d9 e0 h2 x2).bind fun h1=>(if h1 = true then (if 0 ≤ h2 then (if h2 < (x1.length:Int) then ((shares_add.f k e1 e2 ((rd_T23 x1 h2).f0) ((rd_T23 x1 h2).f1)).bind fun e7=>(shares_net_load.l0 k x1 x2 o8 (wrap64 (h2 + 1)) d9 e0 e7.1 e7.2)) else (none)) else (none)) else (shares_net_load.l0 k x1 x2 o8 (wrap64 (h2 + 1)) d9 e0 e1 e2))) else (some (e1,e2))
def shares_net_load.f (k:Nat) (c0:List Int) (b8:List (S45)) (l1:List (S23)) (a2:Int):Option (Int × Int):=(shares_whole.f 0).bind fun e8=>(shares_net_load.l0 k l1 a2 (b8.length:Int) 0 c0 b8 e8.1 e8.2)
theorem shares_net_load.mono_l:∀ k,(∀ y0 y1 y2 y3 y4 y5 y6 y7,LeO (shares_net_load.l0 k y0 y1 y2 y3 y4 y5 y6 y7) (shares_net_load.l0 (k + 1) y0 y1 y2 y3 y4 y5 y6 y7))
 | 0=>fun _ _ _ _ _ _ _ _ r h=>by simp [shares_net_load.l0] at h
 | k + 1=>by
  have o9:=shares_net_load.mono_l k
  intro y0 y1 y2 y3 y4 y5 y6 y7
  unfold shares_net_load.l0
  repeat' first
  | (with_reducible first | exact o9 _ _ _ _ _ _ _ _ | exact shares_add.mono _ _ _ _ _ | exact shares_net_has.mono _ _ _ _ _ | exact LeO.refl _ | exact LeO.none _ | refine LeO.ite ?_ ?_ | refine LeO.bind ?_ (fun _=>?_))
  | exact LeO.none _ | refine LeO.ite ?_ ?_ | refine LeO.bind ?_ (fun _=>?_)
theorem shares_net_load.mono:∀ a0 a1 a2 a3 k,LeO (shares_net_load.f k a0 a1 a2 a3) (shares_net_load.f (k + 1) a0 a1 a2 a3):=by
 intro a0 a1 a2 a3 k
 have o9:=shares_net_load.mono_l k
 unfold shares_net_load.f
 repeat' first
   | (with_reducible first | exact o9 _ _ _ _ _ _ _ _ | exact shares_add.mono _ _ _ _ _ | exact shares_net_has.mono _ _ _ _ _ | exact LeO.refl _ | exact LeO.none _ | refine LeO.ite ?_ ?_ | refine LeO.bind ?_ (fun _=>?_))
   | exact LeO.none _ | refine LeO.ite ?_ ?_ | refine LeO.bind ?_ (fun _=>?_)
theorem shares_net_load.calls (k:Nat) (e3:Option Addr) (e4:Nat) (c0:List Int) (e5:Option Addr) (e6:Nat) (b8:List (S45)) (A1:Option Addr) (c1:Nat) (l1:List (S23)) (a2:Int) (r1:Int) (r2:Int) (w:World) (h3:Kd.C (Kd.int .i64) w e3 c0.length c0) (h4:c0.length ≤ e4) (h5:Kd.C k45 w e5 b8.length b8) (h6:b8.length ≤ e6) (p1:Kd.C k23 w A1 l1.length l1) (p2:l1.length ≤ c1) (h:shares_net_load.f k c0 b8 l1 a2 = some (r1,r2)) :
  Calls Try.prog 107 #[.agg #[.slice e3 c0.length e4,.slice e5 b8.length e6],.slice A1 l1.length c1,.int .i64 a2] w fun e w'=>e = .returned (.agg #[.int .i64 r1,.int .i64 r2]) ∧ Below w.heap.size w w':=by
 have p3:=Try.underlying109
 have s5:=Try.underlying23
 have h7:=A_ h3
 have h8:=A_ h4
 clear h3 h4
 have h9:=A_ h5
 have i0:=A_ h6
 clear h5 h6
 have s6:=A_ p1
 have t4:=A_ p2
 clear p1 p2
 have HB:=A_ (Below.refl w.heap.size w)
 have H:((shares_whole.f 0).bind fun e8=>(shares_net_load.l0 k l1 a2 (b8.length:Int) 0 c0 b8 e8.1 e8.2)) = some (r1,r2):=h
 clear h
 replace H:=Option.bind_eq_some_iff.mp H
 obtain ⟨⟨i1,i6⟩,A40,H⟩:=H
 dsimp only at H
 have A4:=A_ A40
 clear A40
 have H':=A_ H
 clear H
 go_enter Try.func107,Try.ntmps107
 go_wp2_with (first | ((with_reducible refine gate_dst (N:=3) rfl ?_);refine bx 3 #[.slice e3 c0.length e4,.slice e5 b8.length e6] 109 ?_;intro d8 hg w5 hbox hb;have b0:=A_ hbox;have i7:=gw hg HB;have p4:=i7;replace HB:=bB HB hb;clear hb hbox hg) | ((with_reducible refine gate_dst (N:=6) rfl ?_);refine bx 6 #[.int .i64 0,.int .i64 0] 23 ?_;intro e9 hg w6 hbox hb;have b6:=A_ hbox;have i8:=gw hg HB;have p5:=i8;have d0:=nl hg b0;have d1:=ng hg b0;replace b0:=kB b0 hb;replace HB:=bB HB hb;clear hb hbox hg) | ((with_reducible refine gate_callee (f:=64) rfl ?_);refine gL (some 9) Try.func64 #[.int .i64 0] ?_;(with_reducible refine (shares_whole.calls 0 i1 i6 _ A4.out).mono ?_);rintro e w7 ⟨rfl,hb⟩;refine ⟨_,rfl,?_⟩;replace b0:=kB b0 hb;replace b6:=kB b6 hb;replace HB:=bB HB hb;(try clear hb)) | ((with_reducible refine gate_dst (N:=7) rfl ?_);refine bx 7 #[.int .i64 0,.int .i64 0] 23 ?_;intro d3 hg w8 hbox hb;have b3:=A_ hbox;have i9:=gw hg HB;have p6:=i9;have b5:=nl hg b0;have b9:=ng hg b0;have b7:=nl hg b6;have d2:=ng hg b6;replace b0:=kB b0 hb;replace b6:=kB b6 hb;replace HB:=bB HB hb;clear hb hbox hg;have s7:=b9.out;have s8:=b5.out;have p7:=d2.out;have p8:=b7.out;have j9:w8.cell? ⟨d3,0,none⟩ = some (.int .i64 0):=cz b3 0;have l5:w8.cell? ⟨d3,1,none⟩ = some (.int .i64 0):=cz b3 1;have l6:=blk_frozen b3.out 0;have l7:=blk_frozen b3.out 1;have p9:=d0.out;have q0:=d1.out;have l8:w8.cell? ⟨d8,0,none⟩ = some (.slice e3 c0.length e4):=cz b0 0;have l9:w8.cell? ⟨d8,1,none⟩ = some (.slice e5 b8.length e6):=cz b0 1;have m0:=blk_frozen b0.out 0;have m1:=blk_frozen b0.out 1))
 go_loopg [13] k (fun kq s9 w'=>∃ (b4:Int) (b1:Int) (b2:Int),s9 = .int .i64 b4 ∧ Aside0 (shares_net_load.l0 kq l1 a2 (b8.length:Int) b4 c0 b8 b1 b2 = some (r1,r2)) ∧ Aside0 (kq ≤ k) ∧ Aside0 (w'.heap[d8]? = some (.cells #[(.slice e3 c0.length e4),(.slice e5 b8.length e6)] 109 (0,0))) ∧ Aside0 (w'.heap[e9]? = some (.cells #[.int .i64 0,.int .i64 0] 23 (0,0))) ∧ Aside0 (w'.heap[d3]? = some (.cells #[.int .i64 b1,.int .i64 b2] 23 (0,0))) ∧ Aside0 (Below w.heap.size w w'))
 case atStart=>exact ⟨(0),(i1),(i6),rfl,H',⟨Nat.le_refl _⟩,⟨by (with_reducible repeat (first | refine blk_drewN ?_ _ | refine blk_drew ?_ | refine blk_alloc ?_ _));refine blk_far ?_ b5.out _;(with_reducible repeat (first | refine blk_drewN ?_ _ | refine blk_drew ?_ | refine blk_alloc ?_ _));refine blk_far ?_ b5.out _;(with_reducible repeat (first | refine blk_drewN ?_ _ | refine blk_drew ?_ | refine blk_alloc ?_ _));exact b0.out⟩,⟨by (with_reducible repeat (first | refine blk_drewN ?_ _ | refine blk_drew ?_ | refine blk_alloc ?_ _));refine blk_far ?_ b7.out _;(with_reducible repeat (first | refine blk_drewN ?_ _ | refine blk_drew ?_ | refine blk_alloc ?_ _));refine blk_far ?_ b7.out _;(with_reducible repeat (first | refine blk_drewN ?_ _ | refine blk_drew ?_ | refine blk_alloc ?_ _));exact b6.out⟩,⟨by (with_reducible repeat (first | refine blk_drewN ?_ _ | refine blk_drew ?_ | refine blk_alloc ?_ _));refine blk_put (cs:=#[.int .i64 i1,.int .i64 0]) ?_ 1 _ rfl;(with_reducible repeat (first | refine blk_drewN ?_ _ | refine blk_drew ?_ | refine blk_alloc ?_ _));refine blk_put (cs:=#[.int .i64 0,.int .i64 0]) ?_ 0 _ rfl;(with_reducible repeat (first | refine blk_drewN ?_ _ | refine blk_drew ?_ | refine blk_alloc ?_ _));exact b3.out⟩,⟨bl HB⟩⟩
 case round =>
  clear H'
  obtain ⟨b4,b1,b2,rfl,HA,m2,b0,b6,b3,HB⟩:=hrel
  cases gk with
  | zero=>exact absurd HA.out (by simp [shares_net_load.l0])
  | succ k1 =>
   have H:=HA.out
   clear HA
   simp only [shares_net_load.l0] at H
   by_cases i5:b4 < (b8.length:Int)
   case neg =>
    rw [if_neg i5] at H
    have j5:=decide_eq_false i5
    clear i5
    simp only [Option.some.injEq,Prod.mk.injEq] at H
    obtain ⟨rfl,rfl⟩:=H
    have q1:=b9.out
    have q2:=b5.out
    have q3:=d2.out
    have q4:=b7.out
    have m3:wr.cell? ⟨d3,0,none⟩ = some (.int .i64 b1):=cz b3 0
    have m4:wr.cell? ⟨d3,1,none⟩ = some (.int .i64 b2):=cz b3 1
    have m5:=blk_frozen b3.out 0
    have m6:=blk_frozen b3.out 1
    have q5:=d1.out
    have q6:=d0.out
    have m7:wr.cell? ⟨e9,0,none⟩ = some (.int .i64 0):=cz b6 0
    have m8:wr.cell? ⟨e9,1,none⟩ = some (.int .i64 0):=cz b6 1
    have m9:=blk_frozen b6.out 0
    have n0:=blk_frozen b6.out 1
    go_wp2
    refine bodyPost_ret (results_cell_row rfl _ _ e9 23 #[.int .i64 b1,.int .i64 b2] (0,0) _ rfl (by (with_reducible repeat (first | refine blk_drewN ?_ _ | refine blk_drew ?_ | refine blk_alloc ?_ _));refine blk_put (cs:=#[.int .i64 b1,.int .i64 0]) ?_ 1 _ rfl;(with_reducible repeat (first | refine blk_drewN ?_ _ | refine blk_drew ?_ | refine blk_alloc ?_ _));refine blk_put (cs:=#[.int .i64 0,.int .i64 0]) ?_ 0 _ rfl;(with_reducible repeat (first | refine blk_drewN ?_ _ | refine blk_drew ?_ | refine blk_alloc ?_ _));exact b6.out) Try.underlying23 rfl (by kernel_rfl)) rfl ?_
    exact ⟨rfl,bl HB⟩
   rw [if_pos i5] at H
   have j5:=decide_eq_true i5
   clear i5
   replace H:=Option.bind_eq_some_iff.mp H
   obtain ⟨h1,j7,H⟩:=H
   replace H:(if h1 = true then (if 0 ≤ b4 then (if b4 < (l1.length:Int) then ((shares_add.f k1 b1 b2 ((rd_T23 l1 b4).f0) ((rd_T23 l1 b4).f1)).bind fun e7=>(shares_net_load.l0 k1 l1 a2 (b8.length:Int) (wrap64 (b4 + 1)) c0 b8 e7.1 e7.2)) else (none)) else (none)) else (shares_net_load.l0 k1 l1 a2 (b8.length:Int) (wrap64 (b4 + 1)) c0 b8 b1 b2)) = some (r1,r2):=H
   have q7:=A_ j7
   clear j7
   by_cases n1:h1 = true
   case neg =>
    replace n1:=Bool.eq_false_iff.mpr n1
    subst n1
    rw [if_neg (show ¬ (false = true) by decide)] at H
    have H':=A_ H
    clear H
    have q8:=d0.out
    have q9:=d1.out
    have r0:=b5.out
    have r3:=b9.out
    have n2:wr.cell? ⟨d8,0,none⟩ = some (.slice e3 c0.length e4):=cz b0 0
    have n3:wr.cell? ⟨d8,1,none⟩ = some (.slice e5 b8.length e6):=cz b0 1
    have n4:=blk_frozen b0.out 0
    have n5:=blk_frozen b0.out 1
    go_wp2_with (first | ((with_reducible refine gate_callee (f:=104) rfl ?_);refine gL (some 19) Try.func104 #[.agg #[.slice e3 c0.length e4,.slice e5 b8.length e6],.int .i64 b4,.int .i64 a2] ?_;(with_reducible refine (shares_net_has.calls k1 _ _ c0 _ _ b8 b4 a2 false _ ?side1 ?side2 ?side3 ?side4 q7.out).mono ?_);(case side1=>exact cB h7 HB);(case side2=>exact h8.out);(case side3=>exact cB h9 HB);(case side4=>exact i0.out);rintro e t5 ⟨rfl,hb⟩;refine ⟨_,rfl,?_⟩;replace b0:=kB b0 hb;replace b6:=kB b6 hb;replace b3:=kB b3 hb;replace HB:=bB HB hb;(try clear hb)))
    go_roundg k1
    case measure=>have:=m2.out;omega
    case rel=>exact ⟨(wrap64 (b4 + 1)),(b1),(b2),rfl,H',⟨by have:=m2.out;omega⟩,⟨by (with_reducible repeat (first | refine blk_drewN ?_ _ | refine blk_drew ?_ | refine blk_alloc ?_ _));exact b0.out⟩,⟨by (with_reducible repeat (first | refine blk_drewN ?_ _ | refine blk_drew ?_ | refine blk_alloc ?_ _));exact b6.out⟩,⟨by (with_reducible repeat (first | refine blk_drewN ?_ _ | refine blk_drew ?_ | refine blk_alloc ?_ _));exact b3.out⟩,⟨bl HB⟩⟩
   subst n1
   rw [if_pos rfl] at H
   replace H:=gd H
   obtain ⟨r4,H⟩:=H
   have r5:=decide_eq_true r4
   clear r4
   replace H:=gd H
   obtain ⟨r6,H⟩:=H
   have r7:=decide_eq_true r6
   clear r6
   replace H:=Option.bind_eq_some_iff.mp H
   obtain ⟨⟨i2,j8⟩,A190,H⟩:=H
   dsimp only at H
   have t0:=A_ A190
   clear A190
   have H':=A_ H
   clear H
   have r8:=d0.out
   have r9:=d1.out
   have s0:=b5.out
   have s1:=b9.out
   have n6:wr.cell? ⟨d8,0,none⟩ = some (.slice e3 c0.length e4):=cz b0 0
   have n7:wr.cell? ⟨d8,1,none⟩ = some (.slice e5 b8.length e6):=cz b0 1
   have n8:=blk_frozen b0.out 0
   have n9:=blk_frozen b0.out 1
   try go_wp2_with (first | ((with_reducible refine gate_callee (f:=104) rfl ?_);refine gL (some 19) Try.func104 #[.agg #[.slice e3 c0.length e4,.slice e5 b8.length e6],.int .i64 b4,.int .i64 a2] ?_;(with_reducible refine (shares_net_has.calls k1 _ _ c0 _ _ b8 b4 a2 true _ ?side1 ?side2 ?side3 ?side4 q7.out).mono ?_);(case side1=>exact cB h7 HB);(case side2=>exact h8.out);(case side3=>exact cB h9 HB);(case side4=>exact i0.out);rintro e t1 ⟨rfl,hb⟩;refine ⟨_,rfl,?_⟩;replace b0:=kB b0 hb;replace b6:=kB b6 hb;replace b3:=kB b3 hb;replace HB:=bB HB hb;(try clear hb)))
   replace b0:=kD b0
   replace b6:=kD b6
   replace b3:=kD b3
   replace HB:=bD HB
   have i3:0 ≤ (b4:Int):=of_decide_eq_true (by assumption)
   have i4:b4 < (l1.length:Int):=of_decide_eq_true (by assumption)
   obtain ⟨h0,p0,d4,d5⟩:=at_T23 s6.out b4 i3 i4
   have d6:=d5
   have d7:=d4
   cases p0
   replace d4:=(HB.out.cell (World.block_lt_of_cell? w _ d4)).trans d4
   replace d5:=(HB.out.cell (World.block_lt_of_cell? w _ d5)).trans d5
   replace i3:=eq_true i3
   replace i4:=eq_true i4
   refine start_ (n:=7) (S:=fun w'=>w'.cell? ⟨d3,0,none⟩ = some (.int .i64 b1) ∧ w'.cell? ⟨d3,1,none⟩ = some (.int .i64 b2) ∧ w'.cell? (h0.add ((b4).toNat * 2)) = some (.int .i64 ((rd_T23 l1 b4).f0)) ∧ w'.cell? ⟨(h0.add ((b4).toNat * 2)).block,(h0.add ((b4).toNat * 2)).off + 1,none⟩ = some (.int .i64 ((rd_T23 l1 b4).f1))) (ds:=[6]) (ba 7 0) (by kernel_rfl) rfl rfl ⟨cz b3 0,cz b3 1,((HB.out.cell (World.block_lt_of_cell? w _ d7)).trans d7),((HB.out.cell (World.block_lt_of_cell? w _ d6)).trans d6)⟩ (fun hHeld=>?_)
   generalize t1.drew = t6 at b0 b6 b3 HB d4 d5 hHeld ⊢
   refine pr 1 21 2 ?_
   refine pr 2 22 6 ?_
   refine pr 3 23 14 ?_
   refine tr 0 20 15 hHeld ?_
   refine tr 4 24 31 hHeld ?_
   refine os 5 25 63 (fun K hK=>?_)
   refine gq Try.func88 #[.agg #[.int .i64 b1,.int .i64 b2],.agg #[.int .i64 ((rd_T23 l1 b4).f0),.int .i64 ((rd_T23 l1 b4).f1)]] ?_
   with_reducible refine (shares_add.calls k1 b1 b2 ((rd_T23 l1 b4).f0) ((rd_T23 l1 b4).f1) i2 j8 _ t0.out).mono ?_
   rintro e s2 ⟨rfl,hb⟩
   refine ⟨_,rfl,?_⟩
   replace b0:=kB b0 hb
   replace b6:=kB b6 hb
   replace b3:=kB b3 hb
   replace HB:=bB HB hb
   (try clear hb)
   refine hK.out _ _ ⟨cz b3 0,cz b3 1,((HB.out.cell (World.block_lt_of_cell? w _ d7)).trans d7),((HB.out.cell (World.block_lt_of_cell? w _ d6)).trans d6)⟩ (fun hHeld=>?_)
   clear hK K
   refine nq 25 ?_
   refine last_ (i:=6) (N:=none) (ba 7 127) rfl rfl (by kernel_rfl) (by decide) (fun K hK=>?_)
   have t2:s2.cell? ⟨d3,0,none⟩ = some (.int .i64 b1):=cz b3 0
   have s3:=blk_frozen b3.out 0
   have o0:=b5.out
   have o1:=b7.out
   have o2:=b9.out
   have o3:=d2.out
   have t3:s2.cell? ⟨d3,1,none⟩ = some (.int .i64 b2):=cz b3 1
   have s4:=blk_frozen b3.out 1
   have o4:=b5.out
   have o5:=b7.out
   have o6:=b9.out
   have o7:=d2.out
   refine skip_ (w1:=?_) (by rfl) rfl ?_ ?_
   rotate_left
   ·go_simp
    rfl
   refine hK.out _ _ ?_
   clear hK K
   refine done_ (by kernel_rfl) ?_
   try go_wp2
   go_roundg k1
   case measure=>have:=m2.out;omega
   case rel=>exact ⟨(wrap64 (b4 + 1)),(i2),(j8),rfl,H',⟨by have:=m2.out;omega⟩,⟨by (with_reducible repeat (first | refine blk_drewN ?_ _ | refine blk_drew ?_ | refine blk_alloc ?_ _));refine blk_far ?_ b5.out _;(with_reducible repeat (first | refine blk_drewN ?_ _ | refine blk_drew ?_ | refine blk_alloc ?_ _));refine blk_far ?_ b5.out _;(with_reducible repeat (first | refine blk_drewN ?_ _ | refine blk_drew ?_ | refine blk_alloc ?_ _));exact b0.out⟩,⟨by (with_reducible repeat (first | refine blk_drewN ?_ _ | refine blk_drew ?_ | refine blk_alloc ?_ _));refine blk_far ?_ b7.out _;(with_reducible repeat (first | refine blk_drewN ?_ _ | refine blk_drew ?_ | refine blk_alloc ?_ _));refine blk_far ?_ b7.out _;(with_reducible repeat (first | refine blk_drewN ?_ _ | refine blk_drew ?_ | refine blk_alloc ?_ _));exact b6.out⟩,⟨by (with_reducible repeat (first | refine blk_drewN ?_ _ | refine blk_drew ?_ | refine blk_alloc ?_ _));refine blk_put (cs:=#[.int .i64 i2,.int .i64 b2]) ?_ 1 _ rfl;(with_reducible repeat (first | refine blk_drewN ?_ _ | refine blk_drew ?_ | refine blk_alloc ?_ _));refine blk_put (cs:=#[.int .i64 b1,.int .i64 b2]) ?_ 0 _ rfl;(with_reducible repeat (first | refine blk_drewN ?_ _ | refine blk_drew ?_ | refine blk_alloc ?_ _));exact b3.out⟩,⟨bl HB⟩⟩
def shares_net_level.f (k:Nat) (d4:List Int) (b8:List (S45)) (l1:List (S23)) (a2:Int):Option (Int × Int):=if 0 ≤ a2 then (if a2 < (l1.length:Int) then (if a2 < (b8.length:Int) then ((shares_over.f k ((rd_T23 l1 a2).f0) ((rd_T23 l1 a2).f1) ((rd_T45 b8 a2).f0)).bind fun d5=>(some (d5.1,d5.2))) else (none)) else (none)) else (none)
theorem shares_net_level.mono:∀ a0 a1 a2 a3 k,LeO (shares_net_level.f k a0 a1 a2 a3) (shares_net_level.f (k + 1) a0 a1 a2 a3):=by
 intro a0 a1 a2 a3 k
 unfold shares_net_level.f
 repeat' first
   | (with_reducible first | exact shares_over.mono _ _ _ _ | exact LeO.refl _ | exact LeO.none _ | refine LeO.ite ?_ ?_ | refine LeO.bind ?_ (fun _=>?_))
   | exact LeO.none _ | refine LeO.ite ?_ ?_ | refine LeO.bind ?_ (fun _=>?_)
def shares_net_level.T1:Bool × List (List Nat × List Nat):=(true,[([],[]),([],[]),([0,1],[0,1]),([2],[2]),([],[]),([4],[4]),([],[]),([5,6],[5,6]),([7],[7]),([8],[8]),([3,9],[3,9]),([10,10,0,1,2,3,4,5,6,7,8,9,10],[10])])
def shares_net_level.B1:List Nat:=[0,0,3,7,0,16,0,112,240,496,1023,2047]
theorem shares_net_level.tab1:rtab .any (opsOf Try.f108 1) = shares_net_level.T1:=by kernel_rfl
theorem shares_net_level.bits1:waitsOk shares_net_level.T1.2 shares_net_level.B1 = true:=by kernel_rfl
theorem shares_net_level.calls (k:Nat) (e0:Option Addr) (e1:Nat) (d4:List Int) (e9:Option Addr) (e2:Nat) (b8:List (S45)) (A1:Option Addr) (c1:Nat) (l1:List (S23)) (a2:Int) (r1:Int) (r2:Int) (w:World) (e4:Kd.C (Kd.int .i64) w e0 d4.length d4) (e5:d4.length ≤ e1) (e6:Kd.C k45 w e9 b8.length b8) (e7:b8.length ≤ e2) (i7:Kd.C k23 w A1 l1.length l1) (i8:l1.length ≤ c1) (h:shares_net_level.f k d4 b8 l1 a2 = some (r1,r2)) :
  Calls Try.prog 108 #[.agg #[.slice e0 d4.length e1,.slice e9 b8.length e2],.slice A1 l1.length c1,.int .i64 a2] w fun e w'=>e = .returned (.agg #[.int .i64 r1,.int .i64 r2]) ∧ Below w.heap.size w w':=by
 have i9:=Try.underlying109
 have l9:=Try.underlying23
 have j5:=A_ e4
 have j7:=A_ e5
 clear e4 e5
 have h7:=A_ e6
 have j8:=A_ e7
 clear e6 e7
 have m0:=A_ i7
 have m6:=A_ i8
 clear i7 i8
 have HB:=A_ (Below.refl w.heap.size w)
 have H:(if 0 ≤ a2 then (if a2 < (l1.length:Int) then (if a2 < (b8.length:Int) then ((shares_over.f k ((rd_T23 l1 a2).f0) ((rd_T23 l1 a2).f1) ((rd_T45 b8 a2).f0)).bind fun d5=>(some (d5.1,d5.2))) else (none)) else (none)) else (none)) = some (r1,r2):=h
 clear h
 replace H:=gd H
 obtain ⟨c4,H⟩:=H
 have m1:=decide_eq_true c4
 clear c4
 replace H:=gd H
 obtain ⟨c5,H⟩:=H
 have m2:=decide_eq_true c5
 clear c5
 replace H:=gd H
 obtain ⟨c6,H⟩:=H
 have m3:=decide_eq_true c6
 clear c6
 replace H:=Option.bind_eq_some_iff.mp H
 obtain ⟨⟨h0,h8⟩,A70,H⟩:=H
 dsimp only at H
 have A7:=A_ A70
 clear A70
 simp only [Option.some.injEq,Prod.mk.injEq] at H
 obtain ⟨rfl,rfl⟩:=H
 go_enter Try.func108,Try.ntmps108
 try go_wp2_with (first | ((with_reducible refine gate_dst (N:=3) rfl ?_);refine bx 3 #[.slice e0 d4.length e1,.slice e9 b8.length e2] 109 ?_;intro e8 hg w8 hbox hb;have b7:=A_ hbox;have h9:=gw hg HB;have j9:=h9;replace HB:=bB HB hb;clear hb hbox hg) | ((with_reducible refine gate_dst (N:=6) rfl ?_);refine bx 6 #[.int .i64 0,.int .i64 0] 23 ?_;intro b6 hg w9 hbox hb;have b9:=A_ hbox;have b0:=gw hg HB;have l5:=b0;have b5:=nl hg b7;have d3:=ng hg b7;replace b7:=kB b7 hb;replace HB:=bB HB hb;clear hb hbox hg))
 replace b7:=kD b7
 replace b9:=kD b9
 replace HB:=bD HB
 have h1:0 ≤ (a2:Int):=of_decide_eq_true (by assumption)
 have h2:a2 < (l1.length:Int):=of_decide_eq_true (by assumption)
 obtain ⟨d9,i5,c0,d0⟩:=at_T23 m0.out a2 h1 h2
 have b1:=d0
 have b2:=c0
 cases i5
 replace c0:=(HB.out.cell (World.block_lt_of_cell? w _ c0)).trans c0
 replace d0:=(HB.out.cell (World.block_lt_of_cell? w _ d0)).trans d0
 replace h1:=eq_true h1
 replace h2:=eq_true h2
 have h3:0 ≤ (a2:Int):=of_decide_eq_true (by assumption)
 have h4:a2 < (b8.length:Int):=of_decide_eq_true (by assumption)
 obtain ⟨d6,h5,h6,i6,d1,d2,d7,d8⟩:=at_T45 h7.out a2 h3 h4
 have b3:=d2
 have b4:=d1
 cases i6
 replace d1:=(HB.out.cell (World.block_lt_of_cell? w _ d1)).trans d1
 replace d2:=(HB.out.cell (World.block_lt_of_cell? w _ d2)).trans d2
 have e3:=A_ d8
 have i0:=A_ d7
 clear d8 d7
 replace h3:=eq_true h3
 replace h4:=eq_true h4
 refine start_ (n:=12) (S:=fun w'=>w'.cell? ⟨e8,0,none⟩ = some (.slice e0 d4.length e1) ∧ w'.cell? ⟨e8,1,none⟩ = some (.slice (some d6) b8.length e2) ∧ w'.cell? (d9.add ((a2).toNat * 2)) = some (.int .i64 ((rd_T23 l1 a2).f0)) ∧ w'.cell? ⟨(d9.add ((a2).toNat * 2)).block,(d9.add ((a2).toNat * 2)).off + 1,none⟩ = some (.int .i64 ((rd_T23 l1 a2).f1)) ∧ w'.cell? (d6.add ((a2).toNat * 2)) = some (.int .i64 ((rd_T45 b8 a2).f0)) ∧ w'.cell? ⟨(d6.add ((a2).toNat * 2)).block,(d6.add ((a2).toNat * 2)).off + 1,none⟩ = some (.slice h5 ((rd_T45 b8 a2).f1).length h6)) (ds:=[]) (ba 12 0) (by kernel_rfl) rfl rfl ⟨cz b7 0,cz b7 1,((HB.out.cell (World.block_lt_of_cell? w _ b2)).trans b2),((HB.out.cell (World.block_lt_of_cell? w _ b1)).trans b1),((HB.out.cell (World.block_lt_of_cell? w _ b4)).trans b4),((HB.out.cell (World.block_lt_of_cell? w _ b3)).trans b3)⟩ (fun hHeld=>?_);refine with_tabW shares_net_level.tab1 shares_net_level.bits1 (fun HT_ HW_=>?_)
 generalize w9.drew = m7 at b7 b9 HB e3 c0 d0 d1 d2 hHeld ⊢
 refine pq 0 7 1 HT_ ?_
 refine pq 1 8 3 HT_ ?_
 refine pq 2 9 7 HT_ ?_
 refine pq 4 11 23 HT_ ?_
 refine pq 6 13 87 HT_ ?_
 refine tq 3 10 95 HT_ HW_ hHeld ?_
 refine tq 5 12 127 HT_ HW_ hHeld ?_
 refine pq 7 14 255 HT_ ?_
 refine pq 8 15 511 HT_ ?_
 refine tq 9 16 1023 HT_ HW_ hHeld ?_
 refine oq 10 17 2047 HT_ (fun K hK=>?_)
 refine gq Try.func96 #[.agg #[.int .i64 ((rd_T23 l1 a2).f0),.int .i64 ((rd_T23 l1 a2).f1)],.int .i64 ((rd_T45 b8 a2).f0)] ?_
 with_reducible refine (shares_over.calls k ((rd_T23 l1 a2).f0) ((rd_T23 l1 a2).f1) ((rd_T45 b8 a2).f0) h0 h8 _ A7.out).mono ?_
 rintro e l6 ⟨rfl,hb⟩
 refine ⟨_,rfl,?_⟩
 replace b7:=kB b7 hb
 replace b9:=kB b9 hb
 replace HB:=bB HB hb
 (try clear hb)
 refine hK.out _ _ ⟨cz b7 0,cz b7 1,((HB.out.cell (World.block_lt_of_cell? w _ b2)).trans b2),((HB.out.cell (World.block_lt_of_cell? w _ b1)).trans b1),((HB.out.cell (World.block_lt_of_cell? w _ b4)).trans b4),((HB.out.cell (World.block_lt_of_cell? w _ b3)).trans b3)⟩ (fun hHeld=>?_)
 clear hK K
 refine nq 17 ?_
 refine one_ (i:=11) (N:=none) (ba 12 4095) rfl rfl (one_of HT_.out (by kernel_rfl)) (by decide) (fun K hK=>?_)
 have m4:l6.cell? ⟨b6,0,none⟩ = some (.int .i64 0):=cz b9 0
 have l7:=blk_frozen b9.out 0
 have i1:=b5.out
 have i2:=d3.out
 have m5:l6.cell? ⟨b6,1,none⟩ = some (.int .i64 0):=cz b9 1
 have l8:=blk_frozen b9.out 1
 have i3:=b5.out
 have i4:=d3.out
 refine skip_ (w1:=?_) (by rfl) rfl ?_ ?_
 rotate_left
 ·go_simp
  rfl
 refine hK.out _ _ ⟨((cell_far (p:=⟨b6,_,none⟩) b5.out _).trans (((cell_far (p:=⟨b6,_,none⟩) b5.out _).trans (hHeld.1)))),((cell_far (p:=⟨b6,_,none⟩) b5.out _).trans (((cell_far (p:=⟨b6,_,none⟩) b5.out _).trans (hHeld.2.1)))),((cell_far (p:=⟨b6,_,none⟩) (by first | exact Nat.ne_of_lt (Nat.lt_of_lt_of_le (by have:=World.block_lt_of_cell? _ _ b2;first | rwa [add_block] at this | exact this) b0.out) | (rw [add_block];exact Nat.ne_of_lt (Nat.lt_of_lt_of_le (by have:=World.block_lt_of_cell? _ _ b2;first | rwa [add_block] at this | exact this) b0.out)) | (show (Addr.add _ _).block ≠ _;rw [add_block];exact Nat.ne_of_lt (Nat.lt_of_lt_of_le (by have:=World.block_lt_of_cell? _ _ b2;first | rwa [add_block] at this | exact this) b0.out)) | (dsimp only;exact Nat.ne_of_lt (Nat.lt_of_lt_of_le (by have:=World.block_lt_of_cell? _ _ b2;first | rwa [add_block] at this | exact this) b0.out))) _).trans (((cell_far (p:=⟨b6,_,none⟩) (by first | exact Nat.ne_of_lt (Nat.lt_of_lt_of_le (by have:=World.block_lt_of_cell? _ _ b2;first | rwa [add_block] at this | exact this) b0.out) | (rw [add_block];exact Nat.ne_of_lt (Nat.lt_of_lt_of_le (by have:=World.block_lt_of_cell? _ _ b2;first | rwa [add_block] at this | exact this) b0.out)) | (show (Addr.add _ _).block ≠ _;rw [add_block];exact Nat.ne_of_lt (Nat.lt_of_lt_of_le (by have:=World.block_lt_of_cell? _ _ b2;first | rwa [add_block] at this | exact this) b0.out)) | (dsimp only;exact Nat.ne_of_lt (Nat.lt_of_lt_of_le (by have:=World.block_lt_of_cell? _ _ b2;first | rwa [add_block] at this | exact this) b0.out))) _).trans (hHeld.2.2.1)))),((cell_far (p:=⟨b6,_,none⟩) (by first | exact Nat.ne_of_lt (Nat.lt_of_lt_of_le (by have:=World.block_lt_of_cell? _ _ b1;first | rwa [add_block] at this | exact this) b0.out) | (rw [add_block];exact Nat.ne_of_lt (Nat.lt_of_lt_of_le (by have:=World.block_lt_of_cell? _ _ b1;first | rwa [add_block] at this | exact this) b0.out)) | (show (Addr.add _ _).block ≠ _;rw [add_block];exact Nat.ne_of_lt (Nat.lt_of_lt_of_le (by have:=World.block_lt_of_cell? _ _ b1;first | rwa [add_block] at this | exact this) b0.out)) | (dsimp only;exact Nat.ne_of_lt (Nat.lt_of_lt_of_le (by have:=World.block_lt_of_cell? _ _ b1;first | rwa [add_block] at this | exact this) b0.out))) _).trans (((cell_far (p:=⟨b6,_,none⟩) (by first | exact Nat.ne_of_lt (Nat.lt_of_lt_of_le (by have:=World.block_lt_of_cell? _ _ b1;first | rwa [add_block] at this | exact this) b0.out) | (rw [add_block];exact Nat.ne_of_lt (Nat.lt_of_lt_of_le (by have:=World.block_lt_of_cell? _ _ b1;first | rwa [add_block] at this | exact this) b0.out)) | (show (Addr.add _ _).block ≠ _;rw [add_block];exact Nat.ne_of_lt (Nat.lt_of_lt_of_le (by have:=World.block_lt_of_cell? _ _ b1;first | rwa [add_block] at this | exact this) b0.out)) | (dsimp only;exact Nat.ne_of_lt (Nat.lt_of_lt_of_le (by have:=World.block_lt_of_cell? _ _ b1;first | rwa [add_block] at this | exact this) b0.out))) _).trans (hHeld.2.2.2.1)))),((cell_far (p:=⟨b6,_,none⟩) (by first | exact Nat.ne_of_lt (Nat.lt_of_lt_of_le (by have:=World.block_lt_of_cell? _ _ b4;first | rwa [add_block] at this | exact this) b0.out) | (rw [add_block];exact Nat.ne_of_lt (Nat.lt_of_lt_of_le (by have:=World.block_lt_of_cell? _ _ b4;first | rwa [add_block] at this | exact this) b0.out)) | (show (Addr.add _ _).block ≠ _;rw [add_block];exact Nat.ne_of_lt (Nat.lt_of_lt_of_le (by have:=World.block_lt_of_cell? _ _ b4;first | rwa [add_block] at this | exact this) b0.out)) | (dsimp only;exact Nat.ne_of_lt (Nat.lt_of_lt_of_le (by have:=World.block_lt_of_cell? _ _ b4;first | rwa [add_block] at this | exact this) b0.out))) _).trans (((cell_far (p:=⟨b6,_,none⟩) (by first | exact Nat.ne_of_lt (Nat.lt_of_lt_of_le (by have:=World.block_lt_of_cell? _ _ b4;first | rwa [add_block] at this | exact this) b0.out) | (rw [add_block];exact Nat.ne_of_lt (Nat.lt_of_lt_of_le (by have:=World.block_lt_of_cell? _ _ b4;first | rwa [add_block] at this | exact this) b0.out)) | (show (Addr.add _ _).block ≠ _;rw [add_block];exact Nat.ne_of_lt (Nat.lt_of_lt_of_le (by have:=World.block_lt_of_cell? _ _ b4;first | rwa [add_block] at this | exact this) b0.out)) | (dsimp only;exact Nat.ne_of_lt (Nat.lt_of_lt_of_le (by have:=World.block_lt_of_cell? _ _ b4;first | rwa [add_block] at this | exact this) b0.out))) _).trans (hHeld.2.2.2.2.1)))),((cell_far (p:=⟨b6,_,none⟩) (by first | exact Nat.ne_of_lt (Nat.lt_of_lt_of_le (by have:=World.block_lt_of_cell? _ _ b3;first | rwa [add_block] at this | exact this) b0.out) | (rw [add_block];exact Nat.ne_of_lt (Nat.lt_of_lt_of_le (by have:=World.block_lt_of_cell? _ _ b3;first | rwa [add_block] at this | exact this) b0.out)) | (show (Addr.add _ _).block ≠ _;rw [add_block];exact Nat.ne_of_lt (Nat.lt_of_lt_of_le (by have:=World.block_lt_of_cell? _ _ b3;first | rwa [add_block] at this | exact this) b0.out)) | (dsimp only;exact Nat.ne_of_lt (Nat.lt_of_lt_of_le (by have:=World.block_lt_of_cell? _ _ b3;first | rwa [add_block] at this | exact this) b0.out))) _).trans (((cell_far (p:=⟨b6,_,none⟩) (by first | exact Nat.ne_of_lt (Nat.lt_of_lt_of_le (by have:=World.block_lt_of_cell? _ _ b3;first | rwa [add_block] at this | exact this) b0.out) | (rw [add_block];exact Nat.ne_of_lt (Nat.lt_of_lt_of_le (by have:=World.block_lt_of_cell? _ _ b3;first | rwa [add_block] at this | exact this) b0.out)) | (show (Addr.add _ _).block ≠ _;rw [add_block];exact Nat.ne_of_lt (Nat.lt_of_lt_of_le (by have:=World.block_lt_of_cell? _ _ b3;first | rwa [add_block] at this | exact this) b0.out)) | (dsimp only;exact Nat.ne_of_lt (Nat.lt_of_lt_of_le (by have:=World.block_lt_of_cell? _ _ b3;first | rwa [add_block] at this | exact this) b0.out))) _).trans (hHeld.2.2.2.2.2))))⟩ (fun hHeld=>?_)
 clear hK K
 refine done_ (done_of HT_.out (by kernel_rfl)) ?_
 try go_wp2
 refine bodyPost_ret (results_cell_row rfl _ _ b6 23 #[.int .i64 h0,.int .i64 h8] (0,0) _ rfl (by (with_reducible repeat (first | refine blk_drewN ?_ _ | refine blk_drew ?_ | refine blk_alloc ?_ _));refine blk_put (cs:=#[.int .i64 h0,.int .i64 0]) ?_ 1 _ rfl;(with_reducible repeat (first | refine blk_drewN ?_ _ | refine blk_drew ?_ | refine blk_alloc ?_ _));refine blk_put (cs:=#[.int .i64 0,.int .i64 0]) ?_ 0 _ rfl;(with_reducible repeat (first | refine blk_drewN ?_ _ | refine blk_drew ?_ | refine blk_alloc ?_ _));exact b9.out) Try.underlying23 rfl (by kernel_rfl)) rfl ?_
 exact ⟨rfl,bl HB⟩
end Go.Proofs.Ytjohcjfmlhihbaa.G
namespace Go.Proofs.Ytjohcjfmlhihbaa.G
open Go.RowKit Go.Proofs.YtjohcjfmlhihbaaW.PrintWords Go.Proofs.YtjohcjfmlhihbaaW.PrintLast Go.Proofs.YtjohcjfmlhihbaaW.PrintMore
attribute [local go_sem] fld23_0 fld23_1 fld45_0 fld45_1 fld109_0 fld109_1 fld94_0 fld94_1 max2_int min2_int max_two min_two max_three min_three max_four min_four   -- for this text's walks alone
set_option linter.unusedVariables false
set_option linter.unusedSimpArgs false
theorem eqA23 (d:Nat) (w:World) (x0 y0:Int) (x1 y1:Int) :
  (Op.equalIn (d + 2) 23 (.agg #[.int .i64 x0,.int .i64 x1]) (.agg #[.int .i64 y0,.int .i64 y1])).run Try.prog w = .ok (x0 == y0 && (x1 == y1)) w:=by
 refine eqA_of Try.underlying23 (by kernel_rfl) ?_
 refine eqf_cons (by rfl) (by go_simp;rfl) (by go_simp;rfl) (by go_simp) ?_
 exact eqf_last (by rfl) (by go_simp;rfl) (by go_simp;rfl) (by go_simp)
end Go.Proofs.Ytjohcjfmlhihbaa.G
namespace Go.Proofs.Ytjohcjfmlhihbaa.G
open Go.RowKit Go.Proofs.YtjohcjfmlhihbaaW.PrintWords Go.Proofs.YtjohcjfmlhihbaaW.PrintLast Go.Proofs.YtjohcjfmlhihbaaW.PrintMore
set_option maxHeartbeats 8000000
set_option maxRecDepth 100000
attribute [local go_sem] cond_true cond_false fld23_0 fld23_1 fld45_0 fld45_1 fld109_0 fld109_1 fld94_0 fld94_1 max2_int min2_int max_two min_two max_three min_three max_four min_four
attribute [local go_sem high] eqA23
mutual
def shares_net_holds.j0:Nat → List (S23) → Int → Int → Bool → List Int → List (S45) → Option (Bool)
 | 0,_,_,_,_,_,_=>none
 | k + 1,x1,x2,x3,x36,c0,b9=>if x36 = true then (some false) else (shares_net_holds.l0 k x1 x2 x3 (b9.length:Int) 0 c0 b9)
def shares_net_holds.l0:Nat → List (S23) → Int → Int → Int → Int → List Int → List (S45) → Option (Bool)
 | 0,_,_,_,_,_,_,_=>none
 | k + 1,x1,x2,x3,m2,h9,c0,b9=>if h9 < m2 then ((shares_net_has.f k c0 b9 h9 x2).bind fun e9=>(if e9 = true then ((shares_net_level.f k c0 b9 x1 h9).bind fun d8=>((shares_net_level.f k c0 b9 x1 x3).bind fun d9=>((shares_compare.f k d8.1 d8.2 d9.1 d9.2).bind fun e0=>(if e0 > 0 then (some false) else (shares_net_holds.l0 k x1 x2 x3 m2 (wrap64 (h9 + 1)) c0 b9))))) else (shares_net_holds.l0 k x1 x2 x3 m2 (wrap64 (h9 + 1)) c0 b9))) else (some true)
end
def shares_net_holds.f (k:Nat) (b1:List Int) (b2:List (S45)) (l1:List (S23)) (a2:Int) (a3:Int):Option (Bool):=(shares_within.f a2 0 (wrap64 ((b1.length:Int) - 1))).bind fun e4=>(if e4 = true then ((shares_net_has.f k b1 b2 a3 a2).bind fun e1=>(if e1 = true then ((shares_net_load.f k b1 b2 l1 a2).bind fun d1=>(if 0 ≤ a2 then (if a2 < (b1.length:Int) then ((shares_whole.f (rd b1 a2)).bind fun d2=>(shares_net_holds.j0 k l1 a2 a3 (!(d1.1 == d2.1) || (!(d1.2 == d2.2))) b1 b2)) else (none)) else (none))) else (shares_net_holds.j0 k l1 a2 a3 true b1 b2))) else (shares_net_holds.j0 k l1 a2 a3 true b1 b2))
theorem shares_net_holds.mono_l:∀ k,(∀ y0 y1 y2 y3 y4 y5,LeO (shares_net_holds.j0 k y0 y1 y2 y3 y4 y5) (shares_net_holds.j0 (k + 1) y0 y1 y2 y3 y4 y5)) ∧ (∀ y0 y1 y2 y3 y4 y5 y6,LeO (shares_net_holds.l0 k y0 y1 y2 y3 y4 y5 y6) (shares_net_holds.l0 (k + 1) y0 y1 y2 y3 y4 y5 y6))
 | 0=>⟨fun _ _ _ _ _ _ r h=>by simp [shares_net_holds.j0] at h,fun _ _ _ _ _ _ _ r h=>by simp [shares_net_holds.l0] at h⟩
 | k + 1=>by
  obtain ⟨j7,j8⟩:=shares_net_holds.mono_l k
  refine ⟨?_,?_⟩
  ·intro y0 y1 y2 y3 y4 y5
   unfold shares_net_holds.j0
   repeat' first
   | (with_reducible first | exact j7 _ _ _ _ _ _ | exact j8 _ _ _ _ _ _ _ | exact shares_compare.mono _ _ _ _ _ | exact shares_net_has.mono _ _ _ _ _ | exact shares_net_level.mono _ _ _ _ _ | exact shares_net_load.mono _ _ _ _ _ | exact LeO.refl _ | exact LeO.none _ | refine LeO.ite ?_ ?_ | refine LeO.bind ?_ (fun _=>?_))
   | exact LeO.none _ | refine LeO.ite ?_ ?_ | refine LeO.bind ?_ (fun _=>?_)
  intro y0 y1 y2 y3 y4 y5 y6
  unfold shares_net_holds.l0
  repeat' first
  | (with_reducible first | exact j7 _ _ _ _ _ _ | exact j8 _ _ _ _ _ _ _ | exact shares_compare.mono _ _ _ _ _ | exact shares_net_has.mono _ _ _ _ _ | exact shares_net_level.mono _ _ _ _ _ | exact shares_net_load.mono _ _ _ _ _ | exact LeO.refl _ | exact LeO.none _ | refine LeO.ite ?_ ?_ | refine LeO.bind ?_ (fun _=>?_))
  | exact LeO.none _ | refine LeO.ite ?_ ?_ | refine LeO.bind ?_ (fun _=>?_)
theorem shares_net_holds.mono:∀ a0 a1 a2 a3 a4 k,LeO (shares_net_holds.f k a0 a1 a2 a3 a4) (shares_net_holds.f (k + 1) a0 a1 a2 a3 a4):=by
 intro a0 a1 a2 a3 a4 k
 obtain ⟨j7,j8⟩:=shares_net_holds.mono_l k
 unfold shares_net_holds.f
 repeat' first
   | (with_reducible first | exact j7 _ _ _ _ _ _ | exact j8 _ _ _ _ _ _ _ | exact shares_compare.mono _ _ _ _ _ | exact shares_net_has.mono _ _ _ _ _ | exact shares_net_level.mono _ _ _ _ _ | exact shares_net_load.mono _ _ _ _ _ | exact LeO.refl _ | exact LeO.none _ | refine LeO.ite ?_ ?_ | refine LeO.bind ?_ (fun _=>?_))
   | exact LeO.none _ | refine LeO.ite ?_ ?_ | refine LeO.bind ?_ (fun _=>?_)
def shares_net_holds.T1:Bool × List (List Nat × List Nat):=(true,[([],[]),([],[]),([1],[1]),([2],[2]),([3],[3]),([0,4],[0,4]),([5],[5]),([6,5],[6]),([7],[7]),([7],[7]),([7],[7]),([8,9,10,7,7],[7,8,9,10]),([11,7],[7,11]),([7,12],[7,12]),([13,11],[13]),([14],[14]),([14],[14]),([14],[14]),([15,16,17,14,14],[14,15,16,17]),([14],[14]),([19,14],[14,19]),([14],[14]),([20,21,14],[14,20,21]),([22,14],[14,22]),([23,18,14],[14,23]),([18,24,14],[14,18,24]),([14,25],[14,25])])
def shares_net_holds.B1:List Nat:=[0,0,2,6,14,31,63,127,255,255,255,2047,4095,8191,16383,32767,32767,32767,262143,32767,557055,32767,3702783,7897087,16777215,33554431,67108863]
theorem shares_net_holds.tab1:rtab .any (opsOf Try.f76 1) = shares_net_holds.T1:=by kernel_rfl
theorem shares_net_holds.bits1:waitsOk shares_net_holds.T1.2 shares_net_holds.B1 = true:=by kernel_rfl
def shares_net_holds.T6:Bool × List (List Nat × List Nat):=(true,[([],[]),([],[]),([],[]),([0,1,2],[0,1,2]),([3,3],[3]),([4],[4]),([4],[4]),([4],[4]),([5,6,7,4,4],[4,5,6,7]),([4],[4]),([4],[4]),([4],[4]),([9,10,11,8,4],[4,9,10,11]),([8,12,12,4],[4,8,12]),([13,4],[4,13]),([4,14],[4,14])])
def shares_net_holds.B6:List Nat:=[0,0,0,7,15,31,31,31,255,31,31,31,4095,8191,16383,32767]
theorem shares_net_holds.tab6:rtab .any (opsOf Try.f76 6) = shares_net_holds.T6:=by kernel_rfl
theorem shares_net_holds.bits6:waitsOk shares_net_holds.T6.2 shares_net_holds.B6 = true:=by kernel_rfl
theorem shares_net_holds.calls (k:Nat) (d0:Option Addr) (b6:Nat) (b1:List Int) (b7:Option Addr) (b8:Nat) (b2:List (S45)) (A1:Option Addr) (c1:Nat) (l1:List (S23)) (a2:Int) (a3:Int) (r:Bool) (w:World) (h0:Kd.C (Kd.int .i64) w d0 b1.length b1) (h1:b1.length ≤ b6) (h2:Kd.C k45 w b7 b2.length b2) (h3:b2.length ≤ b8) (m6:Kd.C k23 w A1 l1.length l1) (m7:l1.length ≤ c1) (h:shares_net_holds.f k b1 b2 l1 a2 a3 = some r) :
  Calls Try.prog 76 #[.agg #[.slice d0 b1.length b6,.slice b7 b2.length b8],.slice A1 l1.length c1,.int .i64 a2,.int .i64 a3] w fun e w'=>e = .returned (.bool r) ∧ Below w.heap.size w w':=by
 have m8:=Try.underlying109
 have d3:=A_ h0
 have d4:=A_ h1
 clear h0 h1
 have d5:=A_ h2
 have d6:=A_ h3
 clear h2 h3
 have i0:=A_ m6
 have i1:=A_ m7
 clear m6 m7
 have HB:=A_ (Below.refl w.heap.size w)
 have H:((shares_within.f a2 0 (wrap64 ((b1.length:Int) - 1))).bind fun e4=>(if e4 = true then ((shares_net_has.f k b1 b2 a3 a2).bind fun e1=>(if e1 = true then ((shares_net_load.f k b1 b2 l1 a2).bind fun d1=>(if 0 ≤ a2 then (if a2 < (b1.length:Int) then ((shares_whole.f (rd b1 a2)).bind fun d2=>(shares_net_holds.j0 k l1 a2 a3 (!(d1.1 == d2.1) || (!(d1.2 == d2.2))) b1 b2)) else (none)) else (none))) else (shares_net_holds.j0 k l1 a2 a3 true b1 b2))) else (shares_net_holds.j0 k l1 a2 a3 true b1 b2))) = some r:=h
 clear h
 have m3:=A_ H
 clear H
 go_enter Try.func76,Try.ntmps76
 go_upto_region 1 with (first | ((with_reducible refine gate_dst (N:=4) rfl ?_);refine bx 4 #[.slice d0 b1.length b6,.slice b7 b2.length b8] 109 ?_;intro b5 hg w6 hbox hb;have b0:=A_ hbox;have i2:=gw hg HB;have m9:=i2;replace HB:=bB HB hb;clear hb hbox hg))
 (try simp only [Act.put,List.setIfInBounds_toArray,List.set_cons_zero,List.set_cons_succ])
 go_cut [36] (fun n9 wc=>∃ (kq:Nat) (e2:Bool),n9 = .bool e2 ∧ Aside0 (shares_net_holds.j0 kq l1 a2 a3 e2 b1 b2 = some r) ∧ Aside0 (kq ≤ k) ∧ Aside0 (wc.heap[b5]? = some (.cells #[(.slice d0 b1.length b6),(.slice b7 b2.length b8)] 109 (0,0))) ∧ Aside0 (Below w.heap.size w wc))
 case first =>
  have H:=m3.out
  clear m3
  replace H:=Option.bind_eq_some_iff.mp H
  obtain ⟨e4,n0,H⟩:=H
  replace H:(if e4 = true then ((shares_net_has.f k b1 b2 a3 a2).bind fun e1=>(if e1 = true then ((shares_net_load.f k b1 b2 l1 a2).bind fun d1=>(if 0 ≤ a2 then (if a2 < (b1.length:Int) then ((shares_whole.f (rd b1 a2)).bind fun d2=>(shares_net_holds.j0 k l1 a2 a3 (!(d1.1 == d2.1) || (!(d1.2 == d2.2))) b1 b2)) else (none)) else (none))) else (shares_net_holds.j0 k l1 a2 a3 true b1 b2))) else (shares_net_holds.j0 k l1 a2 a3 true b1 b2)) = some r:=H
  have A7:=A_ n0
  clear n0
  by_cases c8:e4 = true
  case neg =>
   replace c8:=Bool.eq_false_iff.mpr c8
   subst c8
   rw [if_neg (show ¬ (false = true) by decide)] at H
   have H':=A_ H
   clear H
   try go_wp2
   replace b0:=kD b0
   replace HB:=bD HB
   refine st 27 (fun w'=>w'.cell? ⟨b5,0,none⟩ = some (.slice d0 b1.length b6) ∧ w'.cell? ⟨b5,1,none⟩ = some (.slice b7 b2.length b8)) [] shares_net_holds.tab1 shares_net_holds.bits1 (fun hHeld HT_ HW_=>?_)
   generalize w6.drew = o3 at b0 HB hHeld ⊢
   refine pq 0 10 1 HT_ ?_
   refine pq 1 11 3 HT_ ?_
   refine tq 2 12 7 HT_ HW_ hHeld ?_
   refine pq 3 13 15 HT_ ?_
   refine pq 4 14 31 HT_ ?_
   refine oq 5 15 63 HT_ (fun K hK=>?_)
   refine gq Try.func92 #[.int .i64 a2,.int .i64 0,.int .i64 (wrap64 ((b1.length:Int) - 1))] ?_
   with_reducible refine (shares_within.calls a2 0 (wrap64 ((b1.length:Int) - 1)) false _ A7.out).mono ?_
   rintro e w' ⟨rfl,⟨nd,rfl⟩⟩
   refine ⟨_,rfl,?_⟩
   refine hz hK (fun hHeld=>?_)
   clear hK K
   refine nq 15 ?_
   refine pq 6 16 127 HT_ ?_
   refine pq 7 17 255 HT_ ?_
   refine pu 8 18 511 HT_ ?_
   refine pu 9 19 1023 HT_ ?_
   refine pu 10 20 2047 HT_ ?_
   refine pu 11 21 4095 HT_ ?_
   refine pu 12 22 8191 HT_ ?_
   refine pq 13 23 16383 HT_ ?_
   refine pq 14 24 32767 HT_ ?_
   refine pu 15 25 65535 HT_ ?_
   refine pu 16 26 131071 HT_ ?_
   refine pu 17 27 262143 HT_ ?_
   refine pu 18 28 524287 HT_ ?_
   refine pu 19 29 1048575 HT_ ?_
   refine pu 20 30 2097151 HT_ ?_
   refine pu 21 31 4194303 HT_ ?_
   refine pu 22 32 8388607 HT_ ?_
   refine pu 23 33 16777215 HT_ ?_
   refine pu 24 34 33554431 HT_ ?_
   refine pu 25 35 67108863 HT_ ?_
   refine pq 26 36 134217727 HT_ ?_
   refine done_ (done_of HT_.out (by kernel_rfl)) ?_
   try go_wp2
   go_meet
   case rel=>exact ⟨_,(true),rfl,H',⟨by first | omega | exact Nat.le_refl _⟩,⟨by exact b0.out⟩,⟨bl HB⟩⟩
  subst c8
  rw [if_pos rfl] at H
  replace H:=Option.bind_eq_some_iff.mp H
  obtain ⟨e1,n1,H⟩:=H
  replace H:(if e1 = true then ((shares_net_load.f k b1 b2 l1 a2).bind fun d1=>(if 0 ≤ a2 then (if a2 < (b1.length:Int) then ((shares_whole.f (rd b1 a2)).bind fun d2=>(shares_net_holds.j0 k l1 a2 a3 (!(d1.1 == d2.1) || (!(d1.2 == d2.2))) b1 b2)) else (none)) else (none))) else (shares_net_holds.j0 k l1 a2 a3 true b1 b2)) = some r:=H
  have A9:=A_ n1
  clear n1
  by_cases c10:e1 = true
  case neg =>
   replace c10:=Bool.eq_false_iff.mpr c10
   subst c10
   rw [if_neg (show ¬ (false = true) by decide)] at H
   have H':=A_ H
   clear H
   try go_wp2
   replace b0:=kD b0
   replace HB:=bD HB
   refine st 27 (fun w'=>w'.cell? ⟨b5,0,none⟩ = some (.slice d0 b1.length b6) ∧ w'.cell? ⟨b5,1,none⟩ = some (.slice b7 b2.length b8)) [] shares_net_holds.tab1 shares_net_holds.bits1 (fun hHeld HT_ HW_=>?_)
   generalize w6.drew = o4 at b0 HB hHeld ⊢
   refine pq 0 10 1 HT_ ?_
   refine pq 1 11 3 HT_ ?_
   refine tq 2 12 7 HT_ HW_ hHeld ?_
   refine pq 3 13 15 HT_ ?_
   refine pq 4 14 31 HT_ ?_
   refine oq 5 15 63 HT_ (fun K hK=>?_)
   refine gq Try.func92 #[.int .i64 a2,.int .i64 0,.int .i64 (wrap64 ((b1.length:Int) - 1))] ?_
   with_reducible refine (shares_within.calls a2 0 (wrap64 ((b1.length:Int) - 1)) true _ A7.out).mono ?_
   rintro e w' ⟨rfl,⟨nd,rfl⟩⟩
   refine ⟨_,rfl,?_⟩
   refine hz hK (fun hHeld=>?_)
   clear hK K
   refine nq 15 ?_
   refine pq 6 16 127 HT_ ?_
   refine pq 7 17 255 HT_ ?_
   refine pq 9 19 767 HT_ ?_
   refine pq 10 20 1791 HT_ ?_
   refine tq 8 18 2047 HT_ HW_ hHeld ?_
   refine oq 11 21 4095 HT_ (fun K hK=>?_)
   refine gq Try.func104 #[.agg #[.slice d0 b1.length b6,.slice b7 b2.length b8],.int .i64 a3,.int .i64 a2] ?_
   with_reducible refine (shares_net_has.calls k _ _ b1 _ _ b2 a3 a2 false _ ?side1 ?side2 ?side3 ?side4 A9.out).mono ?_
   (case side1=>exact cB d3 HB)
   (case side2=>exact d4.out)
   (case side3=>exact cB d5 HB)
   (case side4=>exact d6.out)
   rintro e o5 ⟨rfl,hb⟩
   refine ⟨_,rfl,?_⟩
   replace b0:=kB b0 hb
   replace HB:=bB HB hb
   (try clear hb)
   refine hz hK (fun hHeld=>?_)
   clear hK K
   refine nq 21 ?_
   refine pq 12 22 8191 HT_ ?_
   refine pq 13 23 16383 HT_ ?_
   refine pq 14 24 32767 HT_ ?_
   refine pu 15 25 65535 HT_ ?_
   refine pu 16 26 131071 HT_ ?_
   refine pu 17 27 262143 HT_ ?_
   refine pu 18 28 524287 HT_ ?_
   refine pu 19 29 1048575 HT_ ?_
   refine pu 20 30 2097151 HT_ ?_
   refine pu 21 31 4194303 HT_ ?_
   refine pu 22 32 8388607 HT_ ?_
   refine pu 23 33 16777215 HT_ ?_
   refine pu 24 34 33554431 HT_ ?_
   refine pu 25 35 67108863 HT_ ?_
   refine pq 26 36 134217727 HT_ ?_
   refine done_ (done_of HT_.out (by kernel_rfl)) ?_
   try go_wp2
   go_meet
   case rel=>exact ⟨_,(true),rfl,H',⟨by first | omega | exact Nat.le_refl _⟩,⟨by exact b0.out⟩,⟨bl HB⟩⟩
  subst c10
  rw [if_pos rfl] at H
  replace H:=Option.bind_eq_some_iff.mp H
  obtain ⟨⟨i3,i4⟩,A110,H⟩:=H
  dsimp only at H
  have o0:=A_ A110
  clear A110
  replace H:=gd H
  obtain ⟨n2,H⟩:=H
  have h4:=decide_eq_true n2
  clear n2
  (first | rw [h4] | (simp only [i64_w,i32_w];rw [h4]) | skip)
  replace H:=gd H
  obtain ⟨n3,H⟩:=H
  have n4:=decide_eq_true n3
  clear n3
  replace H:=Option.bind_eq_some_iff.mp H
  obtain ⟨⟨i5,i6⟩,A140,H⟩:=H
  dsimp only at H
  have o1:=A_ A140
  clear A140
  have H':=A_ H
  clear H
  try go_wp2
  replace b0:=kD b0
  replace HB:=bD HB
  have h5:0 ≤ (a2:Int):=of_decide_eq_true (by assumption)
  have h6:a2 < (b1.length:Int):=of_decide_eq_true (by assumption)
  obtain ⟨e3,m4,d7⟩:=Kd.at_int d3.out a2 h5 h6
  have b4:=d7
  cases m4
  replace d7:=(HB.out.cell (World.block_lt_of_cell? w _ d7)).trans d7
  replace h5:=eq_true h5
  replace h6:=eq_true h6
  refine start_ (n:=27) (S:=fun w'=>w'.cell? ⟨b5,0,none⟩ = some (.slice (some e3) b1.length b6) ∧ w'.cell? ⟨b5,1,none⟩ = some (.slice b7 b2.length b8) ∧ w'.cell? (e3.add (a2).toNat) = some (.int .i64 (rd b1 a2))) (ds:=[]) (ba 27 0) (by kernel_rfl) rfl rfl ⟨cz b0 0,cz b0 1,((HB.out.cell (World.block_lt_of_cell? w _ b4)).trans b4)⟩ (fun hHeld=>?_);refine with_tabW shares_net_holds.tab1 shares_net_holds.bits1 (fun HT_ HW_=>?_)
  generalize w6.drew = o6 at b0 HB d7 hHeld ⊢
  refine pq 0 10 1 HT_ ?_
  refine pq 1 11 3 HT_ ?_
  refine tq 2 12 7 HT_ HW_ hHeld ?_
  refine pq 3 13 15 HT_ ?_
  refine pq 4 14 31 HT_ ?_
  refine oq 5 15 63 HT_ (fun K hK=>?_)
  refine gq Try.func92 #[.int .i64 a2,.int .i64 0,.int .i64 (wrap64 ((b1.length:Int) - 1))] ?_
  with_reducible refine (shares_within.calls a2 0 (wrap64 ((b1.length:Int) - 1)) true _ A7.out).mono ?_
  rintro e w' ⟨rfl,⟨nd,rfl⟩⟩
  refine ⟨_,rfl,?_⟩
  refine hK.out _ _ ⟨cz b0 0,cz b0 1,((HB.out.cell (World.block_lt_of_cell? w _ b4)).trans b4)⟩ (fun hHeld=>?_)
  clear hK K
  refine nq 15 ?_
  refine pq 6 16 127 HT_ ?_
  refine pq 7 17 255 HT_ ?_
  refine pq 9 19 767 HT_ ?_
  refine pq 10 20 1791 HT_ ?_
  refine tq 8 18 2047 HT_ HW_ hHeld ?_
  refine oq 11 21 4095 HT_ (fun K hK=>?_)
  refine gq Try.func104 #[.agg #[.slice (some e3) b1.length b6,.slice b7 b2.length b8],.int .i64 a3,.int .i64 a2] ?_
  with_reducible refine (shares_net_has.calls k _ _ b1 _ _ b2 a3 a2 true _ ?side1 ?side2 ?side3 ?side4 A9.out).mono ?_
  (case side1=>exact cB d3 HB)
  (case side2=>exact d4.out)
  (case side3=>exact cB d5 HB)
  (case side4=>exact d6.out)
  rintro e o7 ⟨rfl,hb⟩
  refine ⟨_,rfl,?_⟩
  replace b0:=kB b0 hb
  replace HB:=bB HB hb
  (try clear hb)
  refine hK.out _ _ ⟨cz b0 0,cz b0 1,((HB.out.cell (World.block_lt_of_cell? w _ b4)).trans b4)⟩ (fun hHeld=>?_)
  clear hK K
  refine nq 21 ?_
  refine pq 12 22 8191 HT_ ?_
  refine pq 13 23 16383 HT_ ?_
  refine pq 14 24 32767 HT_ ?_
  refine pq 16 26 98303 HT_ ?_
  refine pq 17 27 229375 HT_ ?_
  refine pq 19 29 753663 HT_ ?_
  refine pq 21 31 2850815 HT_ ?_
  refine tq 15 25 2883583 HT_ HW_ hHeld ?_
  refine tq 20 30 3932159 HT_ HW_ hHeld ?_
  refine pq 22 32 8126463 HT_ ?_
  refine tq 23 33 16515071 HT_ HW_ hHeld ?_
  refine oq 18 28 16777215 HT_ (fun K hK=>?_)
  refine gq Try.func107 #[.agg #[.slice (some e3) b1.length b6,.slice b7 b2.length b8],.slice A1 l1.length c1,.int .i64 a2] ?_
  with_reducible refine (shares_net_load.calls k _ _ b1 _ _ b2 _ _ l1 a2 i3 i4 _ ?side1 ?side2 ?side3 ?side4 ?side5 ?side6 o0.out).mono ?_
  (case side1=>exact cB d3 HB)
  (case side2=>exact d4.out)
  (case side3=>exact cB d5 HB)
  (case side4=>exact d6.out)
  (case side5=>exact cB i0 HB)
  (case side6=>exact i1.out)
  rintro e o8 ⟨rfl,hb⟩
  refine ⟨_,rfl,?_⟩
  replace b0:=kB b0 hb
  replace HB:=bB HB hb
  (try clear hb)
  refine hK.out _ _ ⟨cz b0 0,cz b0 1,((HB.out.cell (World.block_lt_of_cell? w _ b4)).trans b4)⟩ (fun hHeld=>?_)
  clear hK K
  refine nq 28 ?_
  refine oq 24 34 33554431 HT_ (fun K hK=>?_)
  refine gq Try.func64 #[.int .i64 (rd b1 a2)] ?_
  with_reducible refine (shares_whole.calls (rd b1 a2) i5 i6 _ o1.out).mono ?_
  rintro e o9 ⟨rfl,hb⟩
  refine ⟨_,rfl,?_⟩
  replace b0:=kB b0 hb
  replace HB:=bB HB hb
  (try clear hb)
  refine hK.out _ _ ⟨cz b0 0,cz b0 1,((HB.out.cell (World.block_lt_of_cell? w _ b4)).trans b4)⟩ (fun hHeld=>?_)
  clear hK K
  refine nq 34 ?_
  refine pq 25 35 67108863 HT_ ?_
  refine pq 26 36 134217727 HT_ ?_
  refine done_ (done_of HT_.out (by kernel_rfl)) ?_
  try go_wp2
  go_meet
  case rel=>exact ⟨_,((!(i3 == i5) || (!(i4 == i6)))),rfl,H',⟨by first | omega | exact Nat.le_refl _⟩,⟨by exact b0.out⟩,⟨bl HB⟩⟩
 case rest =>
  clear m3
  obtain ⟨kq,e2,rfl,HA,j9,b0,HB⟩:=hcut
  cases kq with
  | zero=>exact absurd HA.out (by simp [shares_net_holds.j0])
  | succ n5 =>
   have H:=HA.out
   clear HA
   simp only [shares_net_holds.j0] at H
   by_cases l5:e2 = true
   ·subst l5
    rw [if_pos rfl] at H
    obtain rfl:=Option.some.inj H
    go_wp2
    go_ret
    exact ⟨rfl,bl HB⟩
   replace l5:=Bool.eq_false_iff.mpr l5
   subst l5
   rw [if_neg (show ¬ (false = true) by decide)] at H
   have H':=A_ H
   clear H
   have l6:wc.cell? ⟨b5,0,none⟩ = some (.slice d0 b1.length b6):=cz b0 0
   have l7:wc.cell? ⟨b5,1,none⟩ = some (.slice b7 b2.length b8):=cz b0 1
   have l8:=blk_frozen b0.out 0
   have l9:=blk_frozen b0.out 1
   go_wp2
   go_loopg [40] n5 (fun kq o2 w'=>∃ (b3:Int),o2 = .int .i64 b3 ∧ Aside0 (shares_net_holds.l0 kq l1 a2 a3 (b2.length:Int) b3 b1 b2 = some r) ∧ Aside0 (kq ≤ n5) ∧ Aside0 (w'.heap[b5]? = some (.cells #[(.slice d0 b1.length b6),(.slice b7 b2.length b8)] 109 (0,0))) ∧ Aside0 (Below w.heap.size w w'))
   case atStart=>exact ⟨(0),rfl,H',⟨Nat.le_refl _⟩,⟨by exact b0.out⟩,⟨bl HB⟩⟩
   case round =>
    clear H'
    obtain ⟨b3,rfl,HA,m0,b0,HB⟩:=hrel
    cases gk with
    | zero=>exact absurd HA.out (by simp [shares_net_holds.l0])
    | succ k2 =>
     have H:=HA.out
     clear HA
     simp only [shares_net_holds.l0] at H
     by_cases h7:b3 < (b2.length:Int)
     case neg =>
      rw [if_neg h7] at H
      have i7:=decide_eq_false h7
      clear h7
      obtain rfl:=Option.some.inj H
      go_wp2
      go_ret
      exact ⟨rfl,bl HB⟩
     rw [if_pos h7] at H
     have i7:=decide_eq_true h7
     clear h7
     replace H:=Option.bind_eq_some_iff.mp H
     obtain ⟨e9,i8,H⟩:=H
     replace H:(if e9 = true then ((shares_net_level.f k2 b1 b2 l1 b3).bind fun d8=>((shares_net_level.f k2 b1 b2 l1 a3).bind fun d9=>((shares_compare.f k2 d8.1 d8.2 d9.1 d9.2).bind fun e0=>(if e0 > 0 then (some false) else (shares_net_holds.l0 k2 l1 a2 a3 (b2.length:Int) (wrap64 (b3 + 1)) b1 b2))))) else (shares_net_holds.l0 k2 l1 a2 a3 (b2.length:Int) (wrap64 (b3 + 1)) b1 b2)) = some r:=H
     have m5:=A_ i8
     clear i8
     by_cases m1:e9 = true
     case neg =>
      replace m1:=Bool.eq_false_iff.mpr m1
      subst m1
      rw [if_neg (show ¬ (false = true) by decide)] at H
      have H':=A_ H
      clear H
      try go_wp2
      replace b0:=kD b0
      replace HB:=bD HB
      refine st 16 (fun w'=>w'.cell? ⟨b5,0,none⟩ = some (.slice d0 b1.length b6) ∧ w'.cell? ⟨b5,1,none⟩ = some (.slice b7 b2.length b8)) [] shares_net_holds.tab6 shares_net_holds.bits6 (fun hHeld HT_ HW_=>?_)
      generalize wr.drew = p0 at b0 HB hHeld ⊢
      refine pq 1 44 2 HT_ ?_
      refine pq 2 45 6 HT_ ?_
      refine tq 0 43 7 HT_ HW_ hHeld ?_
      refine oq 3 46 15 HT_ (fun K hK=>?_)
      refine gq Try.func104 #[.agg #[.slice d0 b1.length b6,.slice b7 b2.length b8],.int .i64 b3,.int .i64 a2] ?_
      with_reducible refine (shares_net_has.calls k2 _ _ b1 _ _ b2 b3 a2 false _ ?side1 ?side2 ?side3 ?side4 m5.out).mono ?_
      (case side1=>exact cB d3 HB)
      (case side2=>exact d4.out)
      (case side3=>exact cB d5 HB)
      (case side4=>exact d6.out)
      rintro e p1 ⟨rfl,hb⟩
      refine ⟨_,rfl,?_⟩
      replace b0:=kB b0 hb
      replace HB:=bB HB hb
      (try clear hb)
      refine hz hK (fun hHeld=>?_)
      clear hK K
      refine nq 46 ?_
      refine pq 4 47 31 HT_ ?_
      refine pu 5 48 63 HT_ ?_
      refine pu 6 49 127 HT_ ?_
      refine pu 7 50 255 HT_ ?_
      refine pu 8 51 511 HT_ ?_
      refine pu 9 52 1023 HT_ ?_
      refine pu 10 53 2047 HT_ ?_
      refine pu 11 54 4095 HT_ ?_
      refine pu 12 55 8191 HT_ ?_
      refine pu 13 56 16383 HT_ ?_
      refine pu 14 57 32767 HT_ ?_
      refine pq 15 58 65535 HT_ ?_
      refine done_ (done_of HT_.out (by kernel_rfl)) ?_
      try go_wp2
      go_roundg k2
      case measure=>have:=j9.out;have:=m0.out;omega
      case rel=>exact ⟨(wrap64 (b3 + 1)),rfl,H',⟨by have:=j9.out;have:=m0.out;omega⟩,⟨by exact b0.out⟩,⟨bl HB⟩⟩
     subst m1
     rw [if_pos rfl] at H
     replace H:=Option.bind_eq_some_iff.mp H
     obtain ⟨⟨e5,e6⟩,A270,H⟩:=H
     dsimp only at H
     have n6:=A_ A270
     clear A270
     replace H:=Option.bind_eq_some_iff.mp H
     obtain ⟨⟨e7,e8⟩,A280,H⟩:=H
     dsimp only at H
     have n7:=A_ A280
     clear A280
     replace H:=Option.bind_eq_some_iff.mp H
     obtain ⟨e0,i9,H⟩:=H
     replace H:(if e0 > 0 then (some false) else (shares_net_holds.l0 k2 l1 a2 a3 (b2.length:Int) (wrap64 (b3 + 1)) b1 b2)) = some r:=H
     have n8:=A_ i9
     clear i9
     by_cases h8:e0 > 0
     ·rw [if_pos h8] at H
      have j5:=decide_eq_true h8
      clear h8
      obtain rfl:=Option.some.inj H
      try go_wp2
      replace b0:=kD b0
      replace HB:=bD HB
      refine st 16 (fun w'=>w'.cell? ⟨b5,0,none⟩ = some (.slice d0 b1.length b6) ∧ w'.cell? ⟨b5,1,none⟩ = some (.slice b7 b2.length b8)) [] shares_net_holds.tab6 shares_net_holds.bits6 (fun hHeld HT_ HW_=>?_)
      generalize wr.drew = p2 at b0 HB hHeld ⊢
      refine pq 1 44 2 HT_ ?_
      refine pq 2 45 6 HT_ ?_
      refine tq 0 43 7 HT_ HW_ hHeld ?_
      refine oq 3 46 15 HT_ (fun K hK=>?_)
      refine gq Try.func104 #[.agg #[.slice d0 b1.length b6,.slice b7 b2.length b8],.int .i64 b3,.int .i64 a2] ?_
      with_reducible refine (shares_net_has.calls k2 _ _ b1 _ _ b2 b3 a2 true _ ?side1 ?side2 ?side3 ?side4 m5.out).mono ?_
      (case side1=>exact cB d3 HB)
      (case side2=>exact d4.out)
      (case side3=>exact cB d5 HB)
      (case side4=>exact d6.out)
      rintro e p3 ⟨rfl,hb⟩
      refine ⟨_,rfl,?_⟩
      replace b0:=kB b0 hb
      replace HB:=bB HB hb
      (try clear hb)
      refine hz hK (fun hHeld=>?_)
      clear hK K
      refine nq 46 ?_
      refine pq 4 47 31 HT_ ?_
      refine pq 6 49 95 HT_ ?_
      refine pq 7 50 223 HT_ ?_
      refine pq 10 53 1247 HT_ ?_
      refine pq 11 54 3295 HT_ ?_
      refine tq 5 48 3327 HT_ HW_ hHeld ?_
      refine tq 9 52 3839 HT_ HW_ hHeld ?_
      refine oq 8 51 4095 HT_ (fun K hK=>?_)
      refine gq Try.func108 #[.agg #[.slice d0 b1.length b6,.slice b7 b2.length b8],.slice A1 l1.length c1,.int .i64 b3] ?_
      with_reducible refine (shares_net_level.calls k2 _ _ b1 _ _ b2 _ _ l1 b3 e5 e6 _ ?side1 ?side2 ?side3 ?side4 ?side5 ?side6 n6.out).mono ?_
      (case side1=>exact cB d3 HB)
      (case side2=>exact d4.out)
      (case side3=>exact cB d5 HB)
      (case side4=>exact d6.out)
      (case side5=>exact cB i0 HB)
      (case side6=>exact i1.out)
      rintro e p4 ⟨rfl,hb⟩
      refine ⟨_,rfl,?_⟩
      replace b0:=kB b0 hb
      replace HB:=bB HB hb
      (try clear hb)
      refine hz hK (fun hHeld=>?_)
      clear hK K
      refine nq 51 ?_
      refine oq 12 55 8191 HT_ (fun K hK=>?_)
      refine gq Try.func108 #[.agg #[.slice d0 b1.length b6,.slice b7 b2.length b8],.slice A1 l1.length c1,.int .i64 a3] ?_
      with_reducible refine (shares_net_level.calls k2 _ _ b1 _ _ b2 _ _ l1 a3 e7 e8 _ ?side1 ?side2 ?side3 ?side4 ?side5 ?side6 n7.out).mono ?_
      (case side1=>exact cB d3 HB)
      (case side2=>exact d4.out)
      (case side3=>exact cB d5 HB)
      (case side4=>exact d6.out)
      (case side5=>exact cB i0 HB)
      (case side6=>exact i1.out)
      rintro e p5 ⟨rfl,hb⟩
      refine ⟨_,rfl,?_⟩
      replace b0:=kB b0 hb
      replace HB:=bB HB hb
      (try clear hb)
      refine hz hK (fun hHeld=>?_)
      clear hK K
      refine nq 55 ?_
      refine oq 13 56 16383 HT_ (fun K hK=>?_)
      refine gq Try.func85 #[.agg #[.int .i64 e5,.int .i64 e6],.agg #[.int .i64 e7,.int .i64 e8]] ?_
      with_reducible refine (shares_compare.calls k2 e5 e6 e7 e8 e0 _ n8.out).mono ?_
      rintro e p6 ⟨rfl,hb⟩
      refine ⟨_,rfl,?_⟩
      replace b0:=kB b0 hb
      replace HB:=bB HB hb
      (try clear hb)
      refine hz hK (fun hHeld=>?_)
      clear hK K
      refine nq 56 ?_
      refine pq 14 57 32767 HT_ ?_
      refine pq 15 58 65535 HT_ ?_
      refine done_ (done_of HT_.out (by kernel_rfl)) ?_
      try go_wp2
      go_ret
      exact ⟨rfl,bl HB⟩
     rw [if_neg h8] at H
     have j5:=decide_eq_false h8
     clear h8
     have H':=A_ H
     clear H
     try go_wp2
     replace b0:=kD b0
     replace HB:=bD HB
     refine st 16 (fun w'=>w'.cell? ⟨b5,0,none⟩ = some (.slice d0 b1.length b6) ∧ w'.cell? ⟨b5,1,none⟩ = some (.slice b7 b2.length b8)) [] shares_net_holds.tab6 shares_net_holds.bits6 (fun hHeld HT_ HW_=>?_)
     generalize wr.drew = p7 at b0 HB hHeld ⊢
     refine pq 1 44 2 HT_ ?_
     refine pq 2 45 6 HT_ ?_
     refine tq 0 43 7 HT_ HW_ hHeld ?_
     refine oq 3 46 15 HT_ (fun K hK=>?_)
     refine gq Try.func104 #[.agg #[.slice d0 b1.length b6,.slice b7 b2.length b8],.int .i64 b3,.int .i64 a2] ?_
     with_reducible refine (shares_net_has.calls k2 _ _ b1 _ _ b2 b3 a2 true _ ?side1 ?side2 ?side3 ?side4 m5.out).mono ?_
     (case side1=>exact cB d3 HB)
     (case side2=>exact d4.out)
     (case side3=>exact cB d5 HB)
     (case side4=>exact d6.out)
     rintro e p8 ⟨rfl,hb⟩
     refine ⟨_,rfl,?_⟩
     replace b0:=kB b0 hb
     replace HB:=bB HB hb
     (try clear hb)
     refine hz hK (fun hHeld=>?_)
     clear hK K
     refine nq 46 ?_
     refine pq 4 47 31 HT_ ?_
     refine pq 6 49 95 HT_ ?_
     refine pq 7 50 223 HT_ ?_
     refine pq 10 53 1247 HT_ ?_
     refine pq 11 54 3295 HT_ ?_
     refine tq 5 48 3327 HT_ HW_ hHeld ?_
     refine tq 9 52 3839 HT_ HW_ hHeld ?_
     refine oq 8 51 4095 HT_ (fun K hK=>?_)
     refine gq Try.func108 #[.agg #[.slice d0 b1.length b6,.slice b7 b2.length b8],.slice A1 l1.length c1,.int .i64 b3] ?_
     with_reducible refine (shares_net_level.calls k2 _ _ b1 _ _ b2 _ _ l1 b3 e5 e6 _ ?side1 ?side2 ?side3 ?side4 ?side5 ?side6 n6.out).mono ?_
     (case side1=>exact cB d3 HB)
     (case side2=>exact d4.out)
     (case side3=>exact cB d5 HB)
     (case side4=>exact d6.out)
     (case side5=>exact cB i0 HB)
     (case side6=>exact i1.out)
     rintro e p9 ⟨rfl,hb⟩
     refine ⟨_,rfl,?_⟩
     replace b0:=kB b0 hb
     replace HB:=bB HB hb
     (try clear hb)
     refine hz hK (fun hHeld=>?_)
     clear hK K
     refine nq 51 ?_
     refine oq 12 55 8191 HT_ (fun K hK=>?_)
     refine gq Try.func108 #[.agg #[.slice d0 b1.length b6,.slice b7 b2.length b8],.slice A1 l1.length c1,.int .i64 a3] ?_
     with_reducible refine (shares_net_level.calls k2 _ _ b1 _ _ b2 _ _ l1 a3 e7 e8 _ ?side1 ?side2 ?side3 ?side4 ?side5 ?side6 n7.out).mono ?_
     (case side1=>exact cB d3 HB)
     (case side2=>exact d4.out)
     (case side3=>exact cB d5 HB)
     (case side4=>exact d6.out)
     (case side5=>exact cB i0 HB)
     (case side6=>exact i1.out)
     rintro e q0 ⟨rfl,hb⟩
     refine ⟨_,rfl,?_⟩
     replace b0:=kB b0 hb
     replace HB:=bB HB hb
     (try clear hb)
     refine hz hK (fun hHeld=>?_)
     clear hK K
     refine nq 55 ?_
     refine oq 13 56 16383 HT_ (fun K hK=>?_)
     refine gq Try.func85 #[.agg #[.int .i64 e5,.int .i64 e6],.agg #[.int .i64 e7,.int .i64 e8]] ?_
     with_reducible refine (shares_compare.calls k2 e5 e6 e7 e8 e0 _ n8.out).mono ?_
     rintro e q1 ⟨rfl,hb⟩
     refine ⟨_,rfl,?_⟩
     replace b0:=kB b0 hb
     replace HB:=bB HB hb
     (try clear hb)
     refine hz hK (fun hHeld=>?_)
     clear hK K
     refine nq 56 ?_
     refine pq 14 57 32767 HT_ ?_
     refine pq 15 58 65535 HT_ ?_
     refine done_ (done_of HT_.out (by kernel_rfl)) ?_
     try go_wp2
     go_roundg k2
     case measure=>have:=j9.out;have:=m0.out;omega
     case rel=>exact ⟨(wrap64 (b3 + 1)),rfl,H',⟨by have:=j9.out;have:=m0.out;omega⟩,⟨by exact b0.out⟩,⟨bl HB⟩⟩
end Go.Proofs.Ytjohcjfmlhihbaa.G
namespace Go.Proofs.Ytjohcjfmlhihbaa.G
open Go.RowKit Go.Proofs.YtjohcjfmlhihbaaW.PrintWords Go.Proofs.YtjohcjfmlhihbaaW.PrintLast Go.Proofs.YtjohcjfmlhihbaaW.PrintMore
set_option maxHeartbeats 8000000
set_option maxRecDepth 100000
attribute [local go_sem] cond_true cond_false fld23_0 fld23_1 fld45_0 fld45_1 fld109_0 fld109_1 fld94_0 fld94_1 max2_int min2_int max_two min_two max_three min_three max_four min_four
attribute [local go_sem high] eqA23
def shares_net_held.l0:Nat → List (S23) → Int → Int → Int → List Int → List (S45) → Option (Int)
 | 0,_,_,_,_,_,_=>none
 | k + 1,x1,x2,h5,e0,b9,c0=>if e0 < h5 then ((shares_net_holds.f k b9 c0 x1 e0 x2).bind fun d0=>(if d0 = true then (some e0) else (shares_net_held.l0 k x1 x2 h5 (wrap64 (e0 + 1)) b9 c0))) else (some (-1))
def shares_net_held.f (k:Nat) (b1:List Int) (b2:List (S45)) (l1:List (S23)) (a2:Int):Option (Int):=shares_net_held.l0 k l1 a2 (b1.length:Int) 0 b1 b2
theorem shares_net_held.mono_l:∀ k,(∀ y0 y1 y2 y3 y4 y5,LeO (shares_net_held.l0 k y0 y1 y2 y3 y4 y5) (shares_net_held.l0 (k + 1) y0 y1 y2 y3 y4 y5))
 | 0=>fun _ _ _ _ _ _ r h=>by simp [shares_net_held.l0] at h
 | k + 1=>by
  have e5:=shares_net_held.mono_l k
  intro y0 y1 y2 y3 y4 y5
  unfold shares_net_held.l0
  repeat' first
  | (with_reducible first | exact e5 _ _ _ _ _ _ | exact shares_net_holds.mono _ _ _ _ _ _ | exact LeO.refl _ | exact LeO.none _ | refine LeO.ite ?_ ?_ | refine LeO.bind ?_ (fun _=>?_))
  | exact LeO.none _ | refine LeO.ite ?_ ?_ | refine LeO.bind ?_ (fun _=>?_)
theorem shares_net_held.mono:∀ a0 a1 a2 a3 k,LeO (shares_net_held.f k a0 a1 a2 a3) (shares_net_held.f (k + 1) a0 a1 a2 a3):=by
 intro a0 a1 a2 a3 k
 have e5:=shares_net_held.mono_l k
 unfold shares_net_held.f
 repeat' first
   | (with_reducible first | exact e5 _ _ _ _ _ _ | exact shares_net_holds.mono _ _ _ _ _ _ | exact LeO.refl _ | exact LeO.none _ | refine LeO.ite ?_ ?_ | refine LeO.bind ?_ (fun _=>?_))
   | exact LeO.none _ | refine LeO.ite ?_ ?_ | refine LeO.bind ?_ (fun _=>?_)
theorem shares_net_held.calls (k:Nat) (b5:Option Addr) (b6:Nat) (b1:List Int) (b7:Option Addr) (b8:Nat) (b2:List (S45)) (A1:Option Addr) (c1:Nat) (l1:List (S23)) (a2:Int) (r:Int) (w:World) (d1:Kd.C (Kd.int .i64) w b5 b1.length b1) (d2:b1.length ≤ b6) (d3:Kd.C k45 w b7 b2.length b2) (d4:b2.length ≤ b8) (h6:Kd.C k23 w A1 l1.length l1) (h7:l1.length ≤ c1) (h:shares_net_held.f k b1 b2 l1 a2 = some r) :
  Calls Try.prog 72 #[.agg #[.slice b5 b1.length b6,.slice b7 b2.length b8],.slice A1 l1.length c1,.int .i64 a2] w fun e w'=>e = .returned (.int .i64 r) ∧ Below w.heap.size w w':=by
 have h8:=Try.underlying109
 have d5:=A_ d1
 have d6:=A_ d2
 clear d1 d2
 have d7:=A_ d3
 have d8:=A_ d4
 clear d3 d4
 have h9:=A_ h6
 have i0:=A_ h7
 clear h6 h7
 have HB:=A_ (Below.refl w.heap.size w)
 have H:(shares_net_held.l0 k l1 a2 (b1.length:Int) 0 b1 b2) = some r:=h
 clear h
 have H':=A_ H
 clear H
 go_enter Try.func72,Try.ntmps72
 go_wp2_with (first | ((with_reducible refine gate_dst (N:=3) rfl ?_);refine bx 3 #[.slice b5 b1.length b6,.slice b7 b2.length b8] 109 ?_;intro b4 hg w4 hbox hb;have b0:=A_ hbox;have d9:=gw hg HB;have i1:=d9;replace HB:=bB HB hb;clear hb hbox hg;have e6:w4.cell? ⟨b4,0,none⟩ = some (.slice b5 b1.length b6):=cz b0 0;have e7:w4.cell? ⟨b4,1,none⟩ = some (.slice b7 b2.length b8):=cz b0 1;have e8:=blk_frozen b0.out 0;have e9:=blk_frozen b0.out 1))
 go_loopg [11] k (fun kq i4 w'=>∃ (b3:Int),i4 = .int .i64 b3 ∧ Aside0 (shares_net_held.l0 kq l1 a2 (b1.length:Int) b3 b1 b2 = some r) ∧ Aside0 (kq ≤ k) ∧ Aside0 (w'.heap[b4]? = some (.cells #[(.slice b5 b1.length b6),(.slice b7 b2.length b8)] 109 (0,0))) ∧ Aside0 (Below w.heap.size w w'))
 case atStart=>exact ⟨(0),rfl,H',⟨Nat.le_refl _⟩,⟨by (with_reducible repeat (first | refine blk_drewN ?_ _ | refine blk_drew ?_ | refine blk_alloc ?_ _));exact b0.out⟩,⟨bl HB⟩⟩
 case round =>
  clear H'
  obtain ⟨b3,rfl,HA,i2,b0,HB⟩:=hrel
  cases gk with
  | zero=>exact absurd HA.out (by simp [shares_net_held.l0])
  | succ k1 =>
   have H:=HA.out
   clear HA
   simp only [shares_net_held.l0] at H
   by_cases c6:b3 < (b1.length:Int)
   case neg =>
    rw [if_neg c6] at H
    have h0:=decide_eq_false c6
    clear c6
    obtain rfl:=Option.some.inj H
    go_wp2
    go_ret
    exact ⟨rfl,bl HB⟩
   rw [if_pos c6] at H
   have h0:=decide_eq_true c6
   clear c6
   replace H:=Option.bind_eq_some_iff.mp H
   obtain ⟨d0,i3,H⟩:=H
   replace H:(if d0 = true then (some b3) else (shares_net_held.l0 k1 l1 a2 (b1.length:Int) (wrap64 (b3 + 1)) b1 b2)) = some r:=H
   have A7:=A_ i3
   clear i3
   by_cases c8:d0 = true
   ·subst c8
    rw [if_pos rfl] at H
    obtain rfl:=Option.some.inj H
    have h1:wr.cell? ⟨b4,0,none⟩ = some (.slice b5 b1.length b6):=cz b0 0
    have h2:wr.cell? ⟨b4,1,none⟩ = some (.slice b7 b2.length b8):=cz b0 1
    have h3:=blk_frozen b0.out 0
    have h4:=blk_frozen b0.out 1
    go_wp2_with (first | ((with_reducible refine gate_callee (f:=76) rfl ?_);refine gL (some 18) Try.func76 #[.agg #[.slice b5 b1.length b6,.slice b7 b2.length b8],.slice A1 l1.length c1,.int .i64 b3,.int .i64 a2] ?_;(with_reducible refine (shares_net_holds.calls k1 _ _ b1 _ _ b2 _ _ l1 b3 a2 true _ ?side1 ?side2 ?side3 ?side4 ?side5 ?side6 A7.out).mono ?_);(case side1=>exact cB d5 HB);(case side2=>exact d6.out);(case side3=>exact cB d7 HB);(case side4=>exact d8.out);(case side5=>exact cB h9 HB);(case side6=>exact i0.out);rintro e i5 ⟨rfl,hb⟩;refine ⟨_,rfl,?_⟩;replace b0:=kB b0 hb;replace HB:=bB HB hb;(try clear hb)))
    go_ret
    exact ⟨rfl,bl HB⟩
   replace c8:=Bool.eq_false_iff.mpr c8
   subst c8
   rw [if_neg (show ¬ (false = true) by decide)] at H
   have H':=A_ H
   clear H
   have e1:wr.cell? ⟨b4,0,none⟩ = some (.slice b5 b1.length b6):=cz b0 0
   have e2:wr.cell? ⟨b4,1,none⟩ = some (.slice b7 b2.length b8):=cz b0 1
   have e3:=blk_frozen b0.out 0
   have e4:=blk_frozen b0.out 1
   go_wp2_with (first | ((with_reducible refine gate_callee (f:=76) rfl ?_);refine gL (some 18) Try.func76 #[.agg #[.slice b5 b1.length b6,.slice b7 b2.length b8],.slice A1 l1.length c1,.int .i64 b3,.int .i64 a2] ?_;(with_reducible refine (shares_net_holds.calls k1 _ _ b1 _ _ b2 _ _ l1 b3 a2 false _ ?side1 ?side2 ?side3 ?side4 ?side5 ?side6 A7.out).mono ?_);(case side1=>exact cB d5 HB);(case side2=>exact d6.out);(case side3=>exact cB d7 HB);(case side4=>exact d8.out);(case side5=>exact cB h9 HB);(case side6=>exact i0.out);rintro e i6 ⟨rfl,hb⟩;refine ⟨_,rfl,?_⟩;replace b0:=kB b0 hb;replace HB:=bB HB hb;(try clear hb)))
   go_roundg k1
   case measure=>have:=i2.out;omega
   case rel=>exact ⟨(wrap64 (b3 + 1)),rfl,H',⟨by have:=i2.out;omega⟩,⟨by (with_reducible repeat (first | refine blk_drewN ?_ _ | refine blk_drew ?_ | refine blk_alloc ?_ _));exact b0.out⟩,⟨bl HB⟩⟩
end Go.Proofs.Ytjohcjfmlhihbaa.G
namespace Go.Proofs.Ytjohcjfmlhihbaa.G
open Go.RowKit Go.Proofs.YtjohcjfmlhihbaaW.PrintWords Go.Proofs.YtjohcjfmlhihbaaW.PrintLast Go.Proofs.YtjohcjfmlhihbaaW.PrintMore
set_option maxHeartbeats 8000000
set_option maxRecDepth 100000
attribute [local go_sem] cond_true cond_false fld23_0 fld23_1 fld45_0 fld45_1 fld109_0 fld109_1 fld94_0 fld94_1 max2_int min2_int max_two min_two max_three min_three max_four min_four
attribute [local go_sem high] eqA23
def shares_Fair.l0:Nat → List (S23) → List Int → Int → Int → List Int → List (S45) → Option ((List (S23)) × List Int × Int)
 | 0,_,_,_,_,_,_=>none
 | k + 1,x9,h5,x23,h6,b9,d0=>if h6 < x23 then ((shares_net_held.f k b9 d0 x9 h6).bind fun b8=>(if h5.length < 17592186044416 then (shares_Fair.l0 k x9 (h5 ++ [b8]) x23 (wrap64 (h6 + 1)) b9 d0) else (none))) else (some (x9,h5,0))
def shares_Fair.f (k:Nat) (l0:List Int) (l1:List (S45)):Option ((List (S23)) × List Int × Int):=(shares_newNet.f k l0 l1).bind fun d2=>(if d2 = true then ((shares_net_fair.f k l0 l1).bind fun b1=>(shares_Fair.l0 k b1 ([]:List Int) (l1.length:Int) 0 l0 l1)) else (some (([]:List (S23)),([]:List Int),2)))
theorem shares_Fair.mono_l:∀ k,(∀ y0 y1 y2 y3 y4 y5,LeO (shares_Fair.l0 k y0 y1 y2 y3 y4 y5) (shares_Fair.l0 (k + 1) y0 y1 y2 y3 y4 y5))
 | 0=>fun _ _ _ _ _ _ r h=>by simp [shares_Fair.l0] at h
 | k + 1=>by
  have h7:=shares_Fair.mono_l k
  intro y0 y1 y2 y3 y4 y5
  unfold shares_Fair.l0
  repeat' first
  | (with_reducible first | exact h7 _ _ _ _ _ _ | exact shares_net_fair.mono _ _ _ | exact shares_net_held.mono _ _ _ _ _ | exact shares_newNet.mono _ _ _ | exact LeO.refl _ | exact LeO.none _ | refine LeO.ite ?_ ?_ | refine LeO.bind ?_ (fun _=>?_))
  | exact LeO.none _ | refine LeO.ite ?_ ?_ | refine LeO.bind ?_ (fun _=>?_)
theorem shares_Fair.mono:∀ a0 a1 k,LeO (shares_Fair.f k a0 a1) (shares_Fair.f (k + 1) a0 a1):=by
 intro a0 a1 k
 have h7:=shares_Fair.mono_l k
 unfold shares_Fair.f
 repeat' first
   | (with_reducible first | exact h7 _ _ _ _ _ _ | exact shares_net_fair.mono _ _ _ | exact shares_net_held.mono _ _ _ _ _ | exact shares_newNet.mono _ _ _ | exact LeO.refl _ | exact LeO.none _ | refine LeO.ite ?_ ?_ | refine LeO.bind ?_ (fun _=>?_))
   | exact LeO.none _ | refine LeO.ite ?_ ?_ | refine LeO.bind ?_ (fun _=>?_)
theorem shares_Fair.calls (k:Nat) (A0:Option Addr) (c0:Nat) (l0:List Int) (A1:Option Addr) (c1:Nat) (l1:List (S45)) (r1:List (S23)) (r2:List Int) (r3:Int) (w:World) (i7:Kd.C (Kd.int .i64) w A0 l0.length l0) (i8:l0.length ≤ c0) (i9:Kd.C k45 w A1 l1.length l1) (j5:l1.length ≤ c1) (h:shares_Fair.f k l0 l1 = some (r1,r2,r3)) :
  Calls Try.prog 32 #[.slice A0 l0.length c0,.slice A1 l1.length c1] w fun e w'=>∃ j7 j8:Value,e = .returned (.tuple #[j7,j8,.int .i64 r3]) ∧ Kd.R k23 23 w' w.heap.size (fun _=>True) j7 r1 ∧ Kd.R (Kd.int .i64) 3 w' w.heap.size (fun _=>True) j8 r2 ∧ Below w.heap.size w w':=by
 have j9:=Try.underlying109
 have e3:=A_ i7
 have e4:=A_ i8
 clear i7 i8
 have e5:=A_ i9
 have e6:=A_ j5
 clear i9 j5
 have HB:=A_ (Below.refl w.heap.size w)
 have H:((shares_newNet.f k l0 l1).bind fun d2=>(if d2 = true then ((shares_net_fair.f k l0 l1).bind fun b1=>(shares_Fair.l0 k b1 ([]:List Int) (l1.length:Int) 0 l0 l1)) else (some (([]:List (S23)),([]:List Int),2)))) = some (r1,r2,r3):=h
 clear h
 replace H:=Option.bind_eq_some_iff.mp H
 obtain ⟨d2,l5,H⟩:=H
 replace H:(if d2 = true then ((shares_net_fair.f k l0 l1).bind fun b1=>(shares_Fair.l0 k b1 ([]:List Int) (l1.length:Int) 0 l0 l1)) else (some (([]:List (S23)),([]:List Int),2))) = some (r1,r2,r3):=H
 have A3:=A_ l5
 clear l5
 by_cases c4:d2 = true
 case neg =>
  replace c4:=Bool.eq_false_iff.mpr c4
  subst c4
  rw [if_neg (show ¬ (false = true) by decide)] at H
  simp only [Option.some.injEq,Prod.mk.injEq] at H
  obtain ⟨rfl,rfl,rfl⟩:=H
  go_enter Try.func32,Try.ntmps32
  go_wp2_with (first | ((with_reducible refine gate_callee (f:=70) rfl ?_);refine gL (some 15) Try.func70 #[.slice A0 l0.length c0,.slice A1 l1.length c1] ?_;(with_reducible refine (shares_newNet.calls k _ _ l0 _ _ l1 false _ ?side1 ?side2 ?side3 ?side4 A3.out).mono ?_);(case side1=>repeat (first | exact e3.out | (with_reducible refine Kd.C_alloc ?_ _) | (with_reducible refine Kd.C_drewN ?_ _) | (with_reducible refine Kd.C_drew ?_)));(case side2=>exact e4.out);(case side3=>repeat (first | exact e5.out | (with_reducible refine Kd.C_alloc ?_ _) | (with_reducible refine Kd.C_drewN ?_ _) | (with_reducible refine Kd.C_drew ?_)));(case side4=>exact e6.out);rintro e m7 ⟨rfl,hb⟩;refine ⟨_,rfl,?_⟩;replace HB:=bB HB hb;(try clear hb)) | ((with_reducible refine gate_dst (N:=7) rfl ?_);refine bx 7 #[.slice none 0 0,.slice none 0 0] 109 ?_;intro d3 hg l6 hbox hb;have d1:=A_ hbox;have d4:=gw hg HB;have l7:=d4;replace HB:=bB HB hb;clear hb hbox hg;have e7:l6.cell? ⟨d3,0,none⟩ = some (.slice none 0 0):=cz d1 0;have e8:l6.cell? ⟨d3,1,none⟩ = some (.slice none 0 0):=cz d1 1;have e9:=blk_frozen d1.out 0;have h0:=blk_frozen d1.out 1))
  go_ret3
  exact ⟨_,_,rfl,by first | exact Kd.R_nil _ _ _ _ _ | exact Kd.N_nil _ _ _ _ _ | exact Kd.V_nil _ _ _ _ _ | exact Kd.Q_nil _ _ _ _ _ | exact Kd.S_nil _ _ _ _ _,by first | exact Kd.R_nil _ _ _ _ _ | exact Kd.N_nil _ _ _ _ _ | exact Kd.V_nil _ _ _ _ _ | exact Kd.Q_nil _ _ _ _ _ | exact Kd.S_nil _ _ _ _ _,bl HB⟩
 subst c4
 rw [if_pos rfl] at H
 replace H:=Option.bind_eq_some_iff.mp H
 obtain ⟨b1,l8,H⟩:=H
 replace H:(shares_Fair.l0 k b1 ([]:List Int) (l1.length:Int) 0 l0 l1) = some (r1,r2,r3):=H
 have A5:=A_ l8
 clear l8
 have H':=A_ H
 clear H
 go_enter Try.func32,Try.ntmps32
 go_wp2_with (first | ((with_reducible refine gate_callee (f:=70) rfl ?_);refine gL (some 15) Try.func70 #[.slice A0 l0.length c0,.slice A1 l1.length c1] ?_;(with_reducible refine (shares_newNet.calls k _ _ l0 _ _ l1 true _ ?side1 ?side2 ?side3 ?side4 A3.out).mono ?_);(case side1=>repeat (first | exact e3.out | (with_reducible refine Kd.C_alloc ?_ _) | (with_reducible refine Kd.C_drewN ?_ _) | (with_reducible refine Kd.C_drew ?_)));(case side2=>exact e4.out);(case side3=>repeat (first | exact e5.out | (with_reducible refine Kd.C_alloc ?_ _) | (with_reducible refine Kd.C_drewN ?_ _) | (with_reducible refine Kd.C_drew ?_)));(case side4=>exact e6.out);rintro e w6 ⟨rfl,hb⟩;refine ⟨_,rfl,?_⟩;replace HB:=bB HB hb;(try clear hb)) | ((with_reducible refine gate_dst (N:=7) rfl ?_);refine bx 7 #[.slice none 0 0,.slice none 0 0] 109 ?_;intro b3 hg w7 hbox hb;have b0:=A_ hbox;have d5:=gw hg HB;have l9:=d5;replace HB:=bB HB hb;clear hb hbox hg;have h8:w7.cell? ⟨b3,0,none⟩ = some (.slice none 0 0):=cz b0 0;have h9:w7.cell? ⟨b3,1,none⟩ = some (.slice none 0 0):=cz b0 1;have i0:=blk_frozen b0.out 0;have i1:=blk_frozen b0.out 1) | ((with_reducible refine gate_callee (f:=71) rfl ?_);refine gL (some 21) Try.func71 #[.agg #[.slice A0 l0.length c0,.slice A1 l1.length c1]] ?_;(with_reducible refine (shares_net_fair.calls k _ _ l0 _ _ l1 b1 _ ?side1 ?side2 ?side3 ?side4 A5.out).mono ?_);(case side1=>exact Kd.C_below e3.out (bl HB));(case side2=>exact e4.out);(case side3=>exact Kd.C_below e5.out (bl HB));(case side4=>exact e6.out);rintro e w9 ⟨i2,rfl,m2,hb⟩;refine ⟨_,rfl,?_⟩;have d6:=A_ (Kd.R_lower m2 (below_size (bl HB)));replace b0:=A_ (blk_below (g:=b3) (o:=.cells #[.slice A0 l0.length c0,.slice A1 l1.length c1] 109 (0,0)) (by (with_reducible repeat (first | refine blk_drewN ?_ _ | refine blk_drew ?_ | refine blk_alloc ?_ _));refine blk_put (cs:=#[.slice A0 l0.length c0,.slice none 0 0]) ?_ 1 _ rfl;(with_reducible repeat (first | refine blk_drewN ?_ _ | refine blk_drew ?_ | refine blk_alloc ?_ _));refine blk_put (cs:=#[.slice none 0 0,.slice none 0 0]) ?_ 0 _ rfl;(with_reducible repeat (first | refine blk_drewN ?_ _ | refine blk_drew ?_ | refine blk_alloc ?_ _));exact b0.out) hb);replace HB:=bB HB hb;(try clear hb)))
 go_loopg [10,24] k (fun kq m3 m4 w'=>∃ (b4:List Int) (b2:Int),m4 = .int .i64 b2 ∧ Aside0 (shares_Fair.l0 kq b1 b4 (l1.length:Int) b2 l0 l1 = some (r1,r2,r3)) ∧ Aside0 (kq ≤ k) ∧ Aside0 (Kd.R k23 23 w' w.heap.size (fun _=>True) i2 b1) ∧ Aside0 (Kd.R (Kd.int .i64) 3 w' w.heap.size (fun _=>True) m3 b4) ∧ Aside0 (w'.heap[b3]? = some (.cells #[(.slice A0 l0.length c0),(.slice A1 l1.length c1)] 109 (0,0))) ∧ Aside0 (Below w.heap.size w w'))
 case atStart=>exact ⟨(([]:List Int)),(0),rfl,H',⟨Nat.le_refl _⟩,⟨by (with_reducible repeat (first | apply Kd.R_alloc | apply Kd.R_drewN | apply Kd.R_drew));exact d6.out⟩,⟨by first | exact Kd.R_nil _ _ _ _ _ | exact Kd.N_nil _ _ _ _ _ | exact Kd.V_nil _ _ _ _ _ | exact Kd.Q_nil _ _ _ _ _ | exact Kd.S_nil _ _ _ _ _⟩,⟨by (with_reducible repeat (first | refine blk_drewN ?_ _ | refine blk_drew ?_ | refine blk_alloc ?_ _));exact b0.out⟩,⟨bl HB⟩⟩
 case round =>
  clear H'
  obtain ⟨b4,b2,rfl,HA,m0,b6,b5,b0,HB⟩:=hrel
  cases gk with
  | zero=>exact absurd HA.out (by simp [shares_Fair.l0])
  | succ k1 =>
   have H:=HA.out
   clear HA
   simp only [shares_Fair.l0] at H
   by_cases c10:b2 < (l1.length:Int)
   case neg =>
    rw [if_neg c10] at H
    have d7:=decide_eq_false c10
    clear c10
    simp only [Option.some.injEq,Prod.mk.injEq] at H
    obtain ⟨rfl,rfl,rfl⟩:=H
    go_wp2
    go_ret3
    exact ⟨_,_,rfl,by (with_reducible repeat (first | apply Kd.R_alloc | apply Kd.R_drewN | apply Kd.R_drew));exact b6.out,by (with_reducible repeat (first | apply Kd.R_alloc | apply Kd.R_drewN | apply Kd.R_drew));exact b5.out,bl HB⟩
   rw [if_pos c10] at H
   have d7:=decide_eq_true c10
   clear c10
   replace H:=Option.bind_eq_some_iff.mp H
   obtain ⟨b8,d8,H⟩:=H
   replace H:(if b4.length < 17592186044416 then (shares_Fair.l0 k1 b1 (b4 ++ [b8]) (l1.length:Int) (wrap64 (b2 + 1)) l0 l1) else (none)) = some (r1,r2,r3):=H
   have m5:=A_ d8
   clear d8
   replace H:=gd H
   obtain ⟨m1,H⟩:=H
   have d9:=A_ m1
   clear m1
   obtain ⟨e0,b7⟩:∃ y_:List Int,y_ = (b4 ++ [b8]):=⟨_,rfl⟩
   replace H:(shares_Fair.l0 k1 b1 e0 (l1.length:Int) (wrap64 (b2 + 1)) l0 l1) = some (r1,r2,r3):=by first | (rw [b7];with_reducible exact H) | (have i3:=(Option.bind_some _ _).symm.trans H;rw [b7];with_reducible exact i3) | (have i3:=(Option.bind_some _ _).symm.trans H;with_reducible exact i3) | with_reducible exact H | (rw [b7];exact H) | exact H
   have e1:=A_ b7
   clear b7
   have H':=A_ H
   clear H
   have h1:wr.cell? ⟨b3,0,none⟩ = some (.slice A0 l0.length c0):=cz b0 0
   have h2:wr.cell? ⟨b3,1,none⟩ = some (.slice A1 l1.length c1):=cz b0 1
   have h3:=blk_frozen b0.out 0
   have h4:=blk_frozen b0.out 1
   obtain ⟨i4,i5,i6⟩:=Kd.R_slice b6.out
   subst i6
   go_wp2_with (first | ((with_reducible refine gate_callee (f:=72) rfl ?_);refine gL (some 31) Try.func72 #[.agg #[.slice A0 l0.length c0,.slice A1 l1.length c1],.slice i4 b1.length i5,.int .i64 b2] ?_;(with_reducible refine (shares_net_held.calls k1 _ _ l0 _ _ l1 _ _ b1 b2 b8 _ ?side1 ?side2 ?side3 ?side4 ?side5 ?side6 m5.out).mono ?_);(case side1=>exact cB e3 HB);(case side2=>exact e4.out);(case side3=>exact cB e5 HB);(case side4=>exact e6.out);(case side5=>repeat (first | exact (Kd.R_reads' b6.out).2.2 | (with_reducible refine Kd.C_alloc ?_ _) | (with_reducible refine Kd.C_drewN ?_ _) | (with_reducible refine Kd.C_drew ?_)));(case side6=>exact (Kd.R_reads' b6.out).2.1);rintro e m8 ⟨rfl,hb⟩;refine ⟨_,rfl,?_⟩;replace b6:=rB b6 hb;replace b5:=rB b5 hb;replace b0:=kB b0 hb;replace HB:=bB HB hb;(try clear hb)) | ((with_reducible refine gate_builtin (b:=.append) (xs:=#[.tmp 27,.tmp 32]) rfl ?_);at_builtin;refine Kd.R_append (Kd.int .i64) (w0:=w) w.heap.size rfl (.tmp 27) (.tmp 32) 28 3 (.int .i64 0) 8 rfl Try.underlying28 info3 rfl (by decide) (by omega) u10 b4 b8 [.int .i64 b8] (fun _=>True) (fun _=>False) rfl rfl ?aP (fun _ hk=>hk.elim) ?aF ?aO ?aB ?aS ?aL ?_;(case aP=>exact rfl);(case aB=>exact HB.out);(case aF=>exact (fun _ _=>trivial));(case aO=>exact b5.out);(case aS=>exact (below_size HB.out));(case aL=>have:=d9.out;omega);intro m6 m9 ho hb hg hat;rw [← e1.out] at ho;have e2:=A_ ho;replace b6:=A_ (Kd.R_over' b6.out (Kd.R_typed b5.out) (by decide) hg);replace b0:=A_ (blk_grown (g:=b3) (o:=.cells #[.slice A0 l0.length c0,.slice A1 l1.length c1] 109 (0,0)) b0.out hg (Kd.R_ne b5.out b0.out (by decide)));replace HB:=A_ hb;clear b5;clear ho hb hg hat))
   go_roundg k1
   case measure=>have:=m0.out;omega
   case rel=>exact ⟨(e0),(wrap64 (b2 + 1)),rfl,H',⟨by have:=m0.out;omega⟩,⟨by (with_reducible repeat (first | apply Kd.R_alloc | apply Kd.R_drewN | apply Kd.R_drew));exact b6.out⟩,⟨by (with_reducible repeat (first | apply Kd.R_alloc | apply Kd.R_drewN | apply Kd.R_drew));exact e2.out⟩,⟨by (with_reducible repeat (first | refine blk_drewN ?_ _ | refine blk_drew ?_ | refine blk_alloc ?_ _));exact b0.out⟩,⟨bl HB⟩⟩
end Go.Proofs.Ytjohcjfmlhihbaa.G
namespace Go.Proofs.Ytjohcjfmlhihbaa.G
open Go.RowKit Go.Proofs.YtjohcjfmlhihbaaW.PrintWords Go.Proofs.YtjohcjfmlhihbaaW.PrintLast Go.Proofs.YtjohcjfmlhihbaaW.PrintMore
set_option maxHeartbeats 8000000
set_option maxRecDepth 100000
attribute [local go_sem] cond_true cond_false fld23_0 fld23_1 fld45_0 fld45_1 fld109_0 fld109_1 fld94_0 fld94_1 max2_int min2_int max_two min_two max_three min_three max_four min_four   -- for this text's walks alone
attribute [local go_sem high] eqA23
def numnahref07_Same.l0:Nat → List (S23) → List (S23) → Int → Option (Bool)
 | 0,_,_,_=>none
 | k + 1,x0,x1,x5=>if x5 < (x0.length:Int) then (if 0 ≤ x5 then (if x5 < (x1.length:Int) then (if (!(((rd_T23 x0 x5).f0) == ((rd_T23 x1 x5).f0)) || (!(((rd_T23 x0 x5).f1) == ((rd_T23 x1 x5).f1)))) = true then (some false) else (numnahref07_Same.l0 k x0 x1 (wrap64 (x5 + 1)))) else (none)) else (none)) else (some true)
def numnahref07_Same.f (k:Nat) (l0:List (S23)) (l1:List (S23)):Option (Bool):=if (l0.length:Int) = (l1.length:Int) then (numnahref07_Same.l0 k l0 l1 0) else (some false)
theorem numnahref07_Same.mono_l:∀ k,(∀ y0 y1 y2,LeO (numnahref07_Same.l0 k y0 y1 y2) (numnahref07_Same.l0 (k + 1) y0 y1 y2))
 | 0=>fun _ _ _ r h=>by simp [numnahref07_Same.l0] at h
 | k + 1=>by
  have d1:=numnahref07_Same.mono_l k
  intro y0 y1 y2
  unfold numnahref07_Same.l0
  repeat' first
  | (with_reducible exact d1 _ _ _)
  | (with_reducible exact LeO.refl _)
  | (with_reducible exact LeO.none _)
  | (with_reducible refine LeO.ite ?_ ?_)
  | (with_reducible refine LeO.bind ?_ (fun _=>?_))
  | exact d1 _ _ _
  | exact LeO.none _
  | refine LeO.ite ?_ ?_
  | refine LeO.bind ?_ (fun _=>?_)
theorem numnahref07_Same.mono:∀ a0 a1 k,LeO (numnahref07_Same.f k a0 a1) (numnahref07_Same.f (k + 1) a0 a1):=by
 intro a0 a1 k
 have d1:=numnahref07_Same.mono_l k
 unfold numnahref07_Same.f
 repeat' first
   | (with_reducible exact d1 _ _ _)
   | (with_reducible exact LeO.refl _)
   | (with_reducible exact LeO.none _)
   | (with_reducible refine LeO.ite ?_ ?_)
   | (with_reducible refine LeO.bind ?_ (fun _=>?_))
   | exact d1 _ _ _
   | exact LeO.none _
   | refine LeO.ite ?_ ?_
   | refine LeO.bind ?_ (fun _=>?_)
theorem numnahref07_Same.calls (k:Nat) (A0:Option Addr) (c0:Nat) (l0:List (S23)) (A1:Option Addr) (c1:Nat) (l1:List (S23)) (r:Bool) (w:World) (d9:Kd.C k23 w A0 l0.length l0) (e0:l0.length ≤ c0) (e1:Kd.C k23 w A1 l1.length l1) (e2:l1.length ≤ c1) (h:numnahref07_Same.f k l0 l1 = some r) :
  Calls Try.prog 33 #[.slice A0 l0.length c0,.slice A1 l1.length c1] w fun e w'=>e = .returned (.bool r) ∧ Drawn0 w w':=by
 have e6:=Try.underlying23
 have e3:=Aside0.mk d9
 have e9:=Aside0.mk e0
 clear d9 e0
 have e4:=Aside0.mk e1
 have h0:=Aside0.mk e2
 clear e1 e2
 have H:(if (l0.length:Int) = (l1.length:Int) then (numnahref07_Same.l0 k l0 l1 0) else (some false)) = some r:=h
 clear h
 by_cases c3:(l0.length:Int) = (l1.length:Int)
 case neg =>
  rw [if_neg c3] at H
  have d2:((l0.length:Int) == (l1.length:Int)) = false:=beq_eq_false_iff_ne.mpr c3
  have d3:((l0.length:Int) != (l1.length:Int)) = true:=bne_iff_ne.mpr c3
  have d4:(l0.length == l1.length) = false:=by first | simpa using c3 | (simp at c3 ⊢;omega)
  obtain rfl:=Option.some.inj H
  go_enter Try.func33,Try.ntmps33
  go_wp2
  repeat (go_quiet (fail);try go_wp2)
  go_ret
  exact ⟨by first | rfl | (simp;done) | (simp [*];done),by repeat (first | exact Drawn0.refl _ | apply Drawn0.step)⟩
 rw [if_pos c3] at H
 have d2:((l0.length:Int) == (l1.length:Int)) = true:=beq_iff_eq.mpr c3
 have d3:((l0.length:Int) != (l1.length:Int)) = false:=bne_eq_false_iff_eq.mpr c3
 have d4:(l0.length == l1.length) = true:=by first | simpa using c3 | (simp at c3 ⊢;omega)
 clear c3
 have H':=Aside0.mk H
 clear H
 go_enter Try.func33,Try.ntmps33
 go_wp2
 repeat (go_quiet (fail);try go_wp2)
 go_loopg [5] k (fun kq v5 w'=>∃ (b0:Int),v5 = .int .i64 b0 ∧ Aside0 (numnahref07_Same.l0 kq l0 l1 b0 = some r) ∧ Aside0 (kq ≤ k) ∧ Drawn0 w w')
 case atStart=>exact ⟨(0),(by first | rfl | (simp;done) | (simp [*];done)),H',⟨Nat.le_refl _⟩,by repeat (first | exact Drawn0.refl _ | apply Drawn0.step)⟩
 case round =>
  clear H'
  try clear c1
  try clear p2
  try clear c3
  try clear d2
  try clear d3
  try clear d4
  obtain ⟨b0,rfl,HA,e5,⟨m1,rfl⟩⟩:=hrel
  cases gk with
  | zero=>exact absurd HA.out (by simp [numnahref07_Same.l0])
  | succ k1 =>
   have H:=HA.out
   clear HA
   simp only [numnahref07_Same.l0] at H
   by_cases c4:b0 < (l0.length:Int)
   case neg =>
    rw [if_neg c4] at H
    have d7:decide (b0 < (l0.length:Int)) = false:=decide_eq_false c4
    clear c4
    obtain rfl:=Option.some.inj H
    go_wp2
    repeat (go_quiet (fail);try go_wp2)
    go_ret
    exact ⟨by first | rfl | (simp;done) | (simp [*];done),by repeat (first | exact Drawn0.refl _ | apply Drawn0.step)⟩
   rw [if_pos c4] at H
   have d7:decide (b0 < (l0.length:Int)) = true:=decide_eq_true c4
   clear c4
   by_cases c5:0 ≤ b0
   case neg =>
    rw [if_neg c5] at H
    exact absurd H (by simp)
   rw [if_pos c5] at H
   have e7:decide (0 ≤ b0) = true:=decide_eq_true c5
   clear c5
   by_cases c6:b0 < (l1.length:Int)
   case neg =>
    rw [if_neg c6] at H
    exact absurd H (by simp)
   rw [if_pos c6] at H
   have e8:decide (b0 < (l1.length:Int)) = true:=decide_eq_true c6
   clear c6
   by_cases c7:(!(((rd_T23 l0 b0).f0) == ((rd_T23 l1 b0).f0)) || (!(((rd_T23 l0 b0).f1) == ((rd_T23 l1 b0).f1)))) = true
   ·rw [if_pos c7] at H
    have d8:(!(((rd_T23 l0 b0).f0) == ((rd_T23 l1 b0).f0)) || (!(((rd_T23 l0 b0).f1) == ((rd_T23 l1 b0).f1)))) = true:=c7
    clear c7
    obtain rfl:=Option.some.inj H
    have b1:0 ≤ (b0:Int):=of_decide_eq_true (by first | (with_reducible assumption) | assumption)
    have b2:b0 < (l0.length:Int):=of_decide_eq_true (by first | (with_reducible assumption) | assumption)
    obtain ⟨d5,b9,b5,b6⟩:=at_T23 e3.out b0 b1 b2
    cases b9
    replace b1:=eq_true b1
    replace b2:=eq_true b2
    have b3:0 ≤ (b0:Int):=of_decide_eq_true (by first | (with_reducible assumption) | assumption)
    have b4:b0 < (l1.length:Int):=of_decide_eq_true (by first | (with_reducible assumption) | assumption)
    obtain ⟨d6,d0,b7,b8⟩:=at_T23 e4.out b0 b3 b4
    cases d0
    replace b3:=eq_true b3
    replace b4:=eq_true b4
    go_wp2
    repeat (go_quiet (fail);try go_wp2)
    go_ret
    exact ⟨by first | rfl | (simp;done) | (simp [*];done),by repeat (first | exact Drawn0.refl _ | apply Drawn0.step)⟩
   rw [if_neg c7] at H
   have d8:(!(((rd_T23 l0 b0).f0) == ((rd_T23 l1 b0).f0)) || (!(((rd_T23 l0 b0).f1) == ((rd_T23 l1 b0).f1)))) = false:=by simpa using c7
   clear c7
   have H':=Aside0.mk H
   clear H
   have b1:0 ≤ (b0:Int):=of_decide_eq_true (by first | (with_reducible assumption) | assumption)
   have b2:b0 < (l0.length:Int):=of_decide_eq_true (by first | (with_reducible assumption) | assumption)
   obtain ⟨d5,b9,b5,b6⟩:=at_T23 e3.out b0 b1 b2
   cases b9
   replace b1:=eq_true b1
   replace b2:=eq_true b2
   have b3:0 ≤ (b0:Int):=of_decide_eq_true (by first | (with_reducible assumption) | assumption)
   have b4:b0 < (l1.length:Int):=of_decide_eq_true (by first | (with_reducible assumption) | assumption)
   obtain ⟨d6,d0,b7,b8⟩:=at_T23 e4.out b0 b3 b4
   cases d0
   replace b3:=eq_true b3
   replace b4:=eq_true b4
   go_wp2
   repeat (go_quiet (fail);try go_wp2)
   go_roundg k1
   case measure=>have:=e5.out;omega
   case rel=>exact ⟨(wrap64 (b0 + 1)),(by first | rfl | (simp;done) | (simp [*];done)),H',⟨by have:=e5.out;omega⟩,by repeat (first | exact Drawn0.refl _ | apply Drawn0.step)⟩
end Go.Proofs.Ytjohcjfmlhihbaa.G
namespace Go.Proofs.Ytjohcjfmlhihbaa.G
open Go.RowKit Go.Proofs.YtjohcjfmlhihbaaW.PrintWords Go.Proofs.YtjohcjfmlhihbaaW.PrintLast Go.Proofs.YtjohcjfmlhihbaaW.PrintMore
set_option maxHeartbeats 8000000
set_option maxRecDepth 100000
attribute [local go_sem] cond_true cond_false fld23_0 fld23_1 fld45_0 fld45_1 fld109_0 fld109_1 fld94_0 fld94_1 max2_int min2_int max_two min_two max_three min_three max_four min_four   -- for this text's walks alone
attribute [local go_sem high] eqA23
def numnahlaw07_ints.l0:Nat → List Int → List Int → Int → Option (Bool)
 | 0,_,_,_=>none
 | k + 1,x0,x1,x5=>if x5 < (x0.length:Int) then (if 0 ≤ x5 then (if x5 < (x1.length:Int) then (if (rd x0 x5) = (rd x1 x5) then (numnahlaw07_ints.l0 k x0 x1 (wrap64 (x5 + 1))) else (some false)) else (none)) else (none)) else (some true)
def numnahlaw07_ints.f (k:Nat) (l0:List Int) (l1:List Int):Option (Bool):=if (l0.length:Int) = (l1.length:Int) then (numnahlaw07_ints.l0 k l0 l1 0) else (some false)
theorem numnahlaw07_ints.mono_l:∀ k,(∀ y0 y1 y2,LeO (numnahlaw07_ints.l0 k y0 y1 y2) (numnahlaw07_ints.l0 (k + 1) y0 y1 y2))
 | 0=>fun _ _ _ r h=>by simp [numnahlaw07_ints.l0] at h
 | k + 1=>by
  have b9:=numnahlaw07_ints.mono_l k
  intro y0 y1 y2
  unfold numnahlaw07_ints.l0
  repeat' first
  | (with_reducible exact b9 _ _ _)
  | (with_reducible exact LeO.refl _)
  | (with_reducible exact LeO.none _)
  | (with_reducible refine LeO.ite ?_ ?_)
  | (with_reducible refine LeO.bind ?_ (fun _=>?_))
  | exact b9 _ _ _
  | exact LeO.none _
  | refine LeO.ite ?_ ?_
  | refine LeO.bind ?_ (fun _=>?_)
theorem numnahlaw07_ints.mono:∀ a0 a1 k,LeO (numnahlaw07_ints.f k a0 a1) (numnahlaw07_ints.f (k + 1) a0 a1):=by
 intro a0 a1 k
 have b9:=numnahlaw07_ints.mono_l k
 unfold numnahlaw07_ints.f
 repeat' first
   | (with_reducible exact b9 _ _ _)
   | (with_reducible exact LeO.refl _)
   | (with_reducible exact LeO.none _)
   | (with_reducible refine LeO.ite ?_ ?_)
   | (with_reducible refine LeO.bind ?_ (fun _=>?_))
   | exact b9 _ _ _
   | exact LeO.none _
   | refine LeO.ite ?_ ?_
   | refine LeO.bind ?_ (fun _=>?_)
theorem numnahlaw07_ints.calls (k:Nat) (A0:Option Addr) (c0:Nat) (l0:List Int) (A1:Option Addr) (c1:Nat) (l1:List Int) (r:Bool) (w:World) (d8:Kd.C (Kd.int .i64) w A0 l0.length l0) (d9:l0.length ≤ c0) (e0:Kd.C (Kd.int .i64) w A1 l1.length l1) (e1:l1.length ≤ c1) (h:numnahlaw07_ints.f k l0 l1 = some r) :
  Calls Try.prog 46 #[.slice A0 l0.length c0,.slice A1 l1.length c1] w fun e w'=>e = .returned (.bool r) ∧ Drawn0 w w':=by
 have e2:=Aside0.mk d8
 have e7:=Aside0.mk d9
 clear d8 d9
 have e3:=Aside0.mk e0
 have e8:=Aside0.mk e1
 clear e0 e1
 have H:(if (l0.length:Int) = (l1.length:Int) then (numnahlaw07_ints.l0 k l0 l1 0) else (some false)) = some r:=h
 clear h
 by_cases c3:(l0.length:Int) = (l1.length:Int)
 case neg =>
  rw [if_neg c3] at H
  have d0:((l0.length:Int) == (l1.length:Int)) = false:=beq_eq_false_iff_ne.mpr c3
  have d1:((l0.length:Int) != (l1.length:Int)) = true:=bne_iff_ne.mpr c3
  have d2:(l0.length == l1.length) = false:=by first | simpa using c3 | (simp at c3 ⊢;omega)
  obtain rfl:=Option.some.inj H
  go_enter Try.func46,Try.ntmps46
  go_wp2
  repeat (go_quiet (fail);try go_wp2)
  go_ret
  exact ⟨by first | rfl | (simp;done) | (simp [*];done),by repeat (first | exact Drawn0.refl _ | apply Drawn0.step)⟩
 rw [if_pos c3] at H
 have d0:((l0.length:Int) == (l1.length:Int)) = true:=beq_iff_eq.mpr c3
 have d1:((l0.length:Int) != (l1.length:Int)) = false:=bne_eq_false_iff_eq.mpr c3
 have d2:(l0.length == l1.length) = true:=by first | simpa using c3 | (simp at c3 ⊢;omega)
 clear c3
 have H':=Aside0.mk H
 clear H
 go_enter Try.func46,Try.ntmps46
 go_wp2
 repeat (go_quiet (fail);try go_wp2)
 go_loopg [5] k (fun kq v5 w'=>∃ (b0:Int),v5 = .int .i64 b0 ∧ Aside0 (numnahlaw07_ints.l0 kq l0 l1 b0 = some r) ∧ Aside0 (kq ≤ k) ∧ Drawn0 w w')
 case atStart=>exact ⟨(0),(by first | rfl | (simp;done) | (simp [*];done)),H',⟨Nat.le_refl _⟩,by repeat (first | exact Drawn0.refl _ | apply Drawn0.step)⟩
 case round =>
  clear H'
  try clear c1
  try clear p2
  try clear c3
  try clear d0
  try clear d1
  try clear d2
  obtain ⟨b0,rfl,HA,e4,⟨m1,rfl⟩⟩:=hrel
  cases gk with
  | zero=>exact absurd HA.out (by simp [numnahlaw07_ints.l0])
  | succ k1 =>
   have H:=HA.out
   clear HA
   simp only [numnahlaw07_ints.l0] at H
   by_cases c4:b0 < (l0.length:Int)
   case neg =>
    rw [if_neg c4] at H
    have d5:decide (b0 < (l0.length:Int)) = false:=decide_eq_false c4
    clear c4
    obtain rfl:=Option.some.inj H
    go_wp2
    repeat (go_quiet (fail);try go_wp2)
    go_ret
    exact ⟨by first | rfl | (simp;done) | (simp [*];done),by repeat (first | exact Drawn0.refl _ | apply Drawn0.step)⟩
   rw [if_pos c4] at H
   have d5:decide (b0 < (l0.length:Int)) = true:=decide_eq_true c4
   clear c4
   by_cases c5:0 ≤ b0
   case neg =>
    rw [if_neg c5] at H
    exact absurd H (by simp)
   rw [if_pos c5] at H
   have e5:decide (0 ≤ b0) = true:=decide_eq_true c5
   clear c5
   by_cases c6:b0 < (l1.length:Int)
   case neg =>
    rw [if_neg c6] at H
    exact absurd H (by simp)
   rw [if_pos c6] at H
   have e6:decide (b0 < (l1.length:Int)) = true:=decide_eq_true c6
   clear c6
   by_cases c7:(rd l0 b0) = (rd l1 b0)
   case neg =>
    rw [if_neg c7] at H
    have d6:((rd l0 b0) == (rd l1 b0)) = false:=beq_eq_false_iff_ne.mpr c7
    have d7:((rd l0 b0) != (rd l1 b0)) = true:=bne_iff_ne.mpr c7
    obtain rfl:=Option.some.inj H
    have b1:0 ≤ (b0:Int):=of_decide_eq_true (by first | (with_reducible assumption) | assumption)
    have b2:b0 < (l0.length:Int):=of_decide_eq_true (by first | (with_reducible assumption) | assumption)
    obtain ⟨d3,b7,b5⟩:=Kd.at_int e2.out b0 b1 b2
    cases b7
    replace b1:=eq_true b1
    replace b2:=eq_true b2
    have b3:0 ≤ (b0:Int):=of_decide_eq_true (by first | (with_reducible assumption) | assumption)
    have b4:b0 < (l1.length:Int):=of_decide_eq_true (by first | (with_reducible assumption) | assumption)
    obtain ⟨d4,b8,b6⟩:=Kd.at_int e3.out b0 b3 b4
    cases b8
    replace b3:=eq_true b3
    replace b4:=eq_true b4
    go_wp2
    repeat (go_quiet (fail);try go_wp2)
    go_ret
    exact ⟨by first | rfl | (simp;done) | (simp [*];done),by repeat (first | exact Drawn0.refl _ | apply Drawn0.step)⟩
   rw [if_pos c7] at H
   have d6:((rd l0 b0) == (rd l1 b0)) = true:=beq_iff_eq.mpr c7
   have d7:((rd l0 b0) != (rd l1 b0)) = false:=bne_eq_false_iff_eq.mpr c7
   clear c7
   have H':=Aside0.mk H
   clear H
   have b1:0 ≤ (b0:Int):=of_decide_eq_true (by first | (with_reducible assumption) | assumption)
   have b2:b0 < (l0.length:Int):=of_decide_eq_true (by first | (with_reducible assumption) | assumption)
   obtain ⟨d3,b7,b5⟩:=Kd.at_int e2.out b0 b1 b2
   cases b7
   replace b1:=eq_true b1
   replace b2:=eq_true b2
   have b3:0 ≤ (b0:Int):=of_decide_eq_true (by first | (with_reducible assumption) | assumption)
   have b4:b0 < (l1.length:Int):=of_decide_eq_true (by first | (with_reducible assumption) | assumption)
   obtain ⟨d4,b8,b6⟩:=Kd.at_int e3.out b0 b3 b4
   cases b8
   replace b3:=eq_true b3
   replace b4:=eq_true b4
   go_wp2
   repeat (go_quiet (fail);try go_wp2)
   go_roundg k1
   case measure=>have:=e4.out;omega
   case rel=>exact ⟨(wrap64 (b0 + 1)),(by first | rfl | (simp;done) | (simp [*];done)),H',⟨by have:=e4.out;omega⟩,by repeat (first | exact Drawn0.refl _ | apply Drawn0.step)⟩
end Go.Proofs.Ytjohcjfmlhihbaa.G
namespace Go.Proofs.Ytjohcjfmlhihbaa.G
open Go Go.RowKit Go.ChangeMaps
variable {P:Program} (w:World)
theorem run_check {k:TypeId} (hk:P.underlying k = some (.int .i64)) (em:Bool) (n:Nat) (j:Int):(Instr.checkKey em (n + 1) k (.int .i64 j)).run P w = .ok () w:=by
 simp [Instr.checkKey,run_underlying hk,Result.andThen]
theorem run_put {t k e:TypeId} (ht:P.underlying t = some (.map k e)) (hk:P.underlying k = some (.int .i64)) {b:Nat} {es:Array MapEntry} {clock:Nat} (hb:w.heap[b]? = some (.map es clock)) {j:Int} {val:Value}
  (hf:Instr.findNow (.int .i64) (.int .i64 j) es.toList 0 = some none) :
  (Instr.mapUpdate t (.map (some b)) (.int .i64 j) val).run P w = .ok () (setBlock w b (.map (es.push { key:=.int .i64 j,val:=val,born:=clock }) (clock + 1))):=by
 simp [Instr.mapUpdate,run_underlying ht,MapKept.run_getObj_map hb,fun em=>run_check w hk em 9999 j,run_underlying hk,Instr.findKey,hf,MapKept.run_setObj_map _ hb,Result.andThen,setBlock]
theorem run_look {t k e:TypeId} (ht:P.underlying t = some (.map k e)) (hk:P.underlying k = some (.int .i64)) {b:Nat} {es:Array MapEntry} {clock:Nat} (hb:w.heap[b]? = some (.map es clock)) {j:Int} {i:Nat} {v:Value}
  (hf:Instr.findNow (.int .i64) (.int .i64 j) es.toList 0 = some (some (i,v))) :
  (Instr.lookup t (.map (some b)) (.int .i64 j) true).run P w = .ok (.tuple #[v,.bool true]) w:=by
 simp [Instr.lookup,run_underlying ht,MapKept.run_getObj_map hb,fun em=>run_check w hk em 9999 j,run_underlying hk,Instr.findKey,hf,Result.andThen]
theorem run_look_no {t k e:TypeId} (ht:P.underlying t = some (.map k e)) (hk:P.underlying k = some (.int .i64)) {z:Value} (hz:(zeroValue e).run P w = .ok z w) {b:Nat} {es:Array MapEntry} {clock:Nat} (hb:w.heap[b]? = some (.map es clock)) {j:Int}
  (hf:Instr.findNow (.int .i64) (.int .i64 j) es.toList 0 = some none) :
  (Instr.lookup t (.map (some b)) (.int .i64 j) true).run P w = .ok (.tuple #[z,.bool false]) w:=by
 simp [Instr.lookup,run_underlying ht,MapKept.run_getObj_map hb,fun em=>run_check w hk em 9999 j,run_underlying hk,Instr.findKey,hf,hz,Result.andThen]
theorem insert_new {ops:Array Oper} {rest:List Oper} {o:Oper} {a:Act} {Q:Exit → Act → World → Prop} (hg:o.guard = none) (m x v:Operand) (t k e:TypeId) (hop:o.op = Op.insert t m x v)
  (ht:P.underlying t = some (.map k e)) (hk:P.underlying k = some (.int .i64)) (b:Nat) (es:Array MapEntry) (clock:Nat) (hm:a.eval m = .map (some b)) (hb:w.heap[b]? = some (.map es clock)) (j:Int) (val:Value) (hx:a.eval x = .int .i64 j) (hv:a.eval v = val)
  (hf:Instr.findNow (.int .i64) (.int .i64 j) es.toList 0 = some none)
  (hK:∀ w',w'.heap[b]? = some (.map (es.push { key:=.int .i64 j,val:=val,born:=clock }) (clock + 1)) → w.grownBy w' (some b) → wpList P ops Q rest (a.put o.dst undef) w') :
  wpList P ops Q (o :: rest) a w:=by
 refine wpList_plain hg fun K' hK'=>?_
 unfold Oper.wp
 simp [execOp,hop,hm,hx,hv,run_put w ht hk hb hf,Result.andThen]
 refine hK' _ _ (hK _ (heap_setBlock_same hb _) ⟨rfl,rfl,rfl,by simp [setBlock],fun i _ hi=>heap_setBlock_other hb _ (fun e=>hi (by rw [e]))⟩)
theorem map_event {ops:Array Oper} {rest:List Oper} {o:Oper} {a:Act} {Q:Exit → Act → World → Prop} {W:World} (hg:o.guard = none) (t:TypeId) (hop:o.op = Op.makeMap t none)
  (h:∀ g,g = W.heap.size → ∀ w1,w1.heap[g]? = some (.map #[] 0) → Below W.heap.size W w1 → wpList P ops Q rest (a.put o.dst (.map (some g))) w1):wpList P ops Q (o :: rest) a W:=by
 refine wpList_plain hg fun K' hK'=>?_
 unfold Oper.wp
 have hr:(Instr.makeMap t none).run P W = .ok (.map (some W.heap.size)) (W.alloc (.map #[] 0)):=rfl
 simp [execOp,hop,hr,Result.andThen]
 exact hK' _ _ (h _ rfl _ (World.alloc_heap_new _ _) ((Below.refl _ _).alloc (Nat.le_refl _) _))
end Go.Proofs.Ytjohcjfmlhihbaa.G
namespace Go.Proofs.Ytjohcjfmlhihbaa.G
open Go.RowKit Go.Proofs.YtjohcjfmlhihbaaW.PrintWords Go.Proofs.YtjohcjfmlhihbaaW.PrintLast Go.Proofs.YtjohcjfmlhihbaaW.PrintMore
attribute [local go_sem] cond_true cond_false fld23_0 fld23_1 fld45_0 fld45_1 fld109_0 fld109_1 fld94_0 fld94_1 max2_int min2_int max_two min_two max_three min_three max_four min_four   -- for this text's walks alone
set_option linter.unusedVariables false
set_option linter.unusedSimpArgs false
def prop_1.f (k:Nat) (a0 est all:Int):Option (Int × Int):=(shares_frac.f k (wrap64 (a0 * est)) all).bind fun bt137=>(some (bt137.1,bt137.2))
theorem prop_1.mono:∀ a0 est all k,LeO (prop_1.f k a0 est all) (prop_1.f (k + 1) a0 est all):=by
 intro a0 est all k
 unfold prop_1.f
 repeat' first
   | (with_reducible exact shares_frac.mono _ _ _)
   | (with_reducible exact LeO.refl _)
   | (with_reducible exact LeO.none _)
   | (with_reducible refine LeO.ite ?_ ?_)
   | (with_reducible refine LeO.bind ?_ (fun _=>?_))
   | exact shares_frac.mono _ _ _
   | exact LeO.none _
   | refine LeO.ite ?_ ?_
   | refine LeO.bind ?_ (fun _=>?_)
set_option maxHeartbeats 8000000 in
set_option maxRecDepth 100000 in
theorem prop_1.calls (k:Nat) (a0 est all:Int) (r1:Int) (r2:Int) (w:World) (gbC gbA:Nat) (A:Option Addr) (c n:Nat) (BK0:w.heap[gbC]? = some (.cells #[.slice A n c,.int .i64 est] 94 (0,0))) (BK1:w.heap[gbA]? = some (.cells #[.int .i64 all] 3 (0,0))) (h:prop_1.f k a0 est all = some (r1,r2)) :
  Calls Try.prog 121 #[.int .i64 a0,.pointer (some ⟨gbC,0,none⟩),.pointer (some ⟨gbA,0,none⟩)] w fun e w'=>e = .returned (.agg #[.int .i64 r1,.int .i64 r2]) ∧ Below w.heap.size w w':=by
 have hu23:=Try.underlying23
 have HB:=Aside0.mk (Below.refl w.heap.size w)
 have BKC:=Aside0.mk BK0
 have BKA:=Aside0.mk BK1
 clear BK0 BK1
 have H:((shares_frac.f k (wrap64 (a0 * est)) all).bind fun bt137=>(some (bt137.1,bt137.2))) = some (r1,r2):=h
 clear h
 replace H:=Option.bind_eq_some_iff.mp H
 obtain ⟨⟨t137,t138⟩,A20,H⟩:=H
 replace H:(some (t137,t138)) = some (r1,r2):=H
 have A2:=Aside0.mk A20
 clear A20
 simp only [Option.some.injEq,Prod.mk.injEq] at H
 obtain ⟨rfl,rfl⟩:=H
 go_enter Try.func121,Try.ntmps121
 go_wp2_with (first | ((with_reducible refine gate_dst (N:=4) rfl ?_);refine box_event ?hg (N:=4) ?hd (cs:=#[.int .i64 0,.int .i64 0]) (t:=23) ?hr ?_;(case hd=>rfl);(case hg=>rfl);(case hr=>first | (go_simp;done) | (go_simp;rfl));intro gb136 hg w3 hbox hb;have n0_:=Aside0.mk (below_step (by repeat (first | (with_reducible first | exact HB.out | apply below_alloc | apply pw_below_drewN | apply below_drew1) | exact HB.out)) hb);have n1_:=Aside0.mk (hbox);have n2_:=Aside0.mk ((by rw [hg];exact (below_size (by repeat (first | (with_reducible first | exact HB.out | apply below_alloc | apply pw_below_drewN | apply below_drew1) | exact HB.out))):w.heap.size ≤ gb136));have n3_:=Aside0.mk ((by rw [hg];exact (below_size (by repeat (first | (with_reducible first | exact HB.out | apply below_alloc | apply pw_below_drewN | apply below_drew1) | exact HB.out))):w.heap.size ≤ gb136));clear HB;have HB:=n0_;have BK136:=n1_;have GW136:=n2_;have GE136:=n3_;clear n0_ n1_ n2_ n3_;have n4_:=Aside0.mk (blk_below (g:=gbC) (o:=.cells #[.slice A n c,.int .i64 est] 94 (0,0)) BKC.out hb);have n5_:=Aside0.mk (blk_below (g:=gbA) (o:=.cells #[.int .i64 all] 3 (0,0)) BKA.out hb);have hczC:=(blk_cell n4_.out 1).trans rfl;have hczA:=(blk_cell n5_.out 0).trans rfl;clear n4_ n5_;clear hb hbox hg) | ((with_reducible refine gate_callee (f:=117) rfl ?_);refine goesL_ (some 10) rfl rfl Try.func117 (by kernel_rfl) rfl #[.int .i64 (wrap64 (a0 * est)),.int .i64 all] rfl (by (try simp only [List.map_toArray,List.map_cons,List.map_nil]);first | done | rfl | (simp only [List.length_drop,List.length_take];rfl)) ?_;(with_reducible refine (shares_frac.calls k (wrap64 (a0 * est)) all t137 t138 _ A2.out).mono ?_);rintro e w4 ⟨rfl,hb⟩;refine ⟨_,rfl,?_⟩;have n0_:=Aside0.mk (blk_below (g:=gb136) (o:=.cells #[.int .i64 0,.int .i64 0] 23 (0,0)) (by (with_reducible repeat (first | refine blk_drewN ?_ _ | refine blk_drew ?_ | refine blk_alloc ?_ _));exact BK136.out) hb);have n1_:=Aside0.mk (below_step (by repeat (first | (with_reducible first | exact HB.out | apply below_alloc | apply pw_below_drewN | apply below_drew1 | refine below_set ?_ GE136.out) | exact HB.out)) hb);clear BK136;clear HB;have BK136:=n0_;have HB:=n1_;clear n0_ n1_;(try clear hb);(try clear hb2);(try clear hk);(try clear hi);have hcz5_0:w4.cell? ⟨gb136,0,none⟩ = some (.int .i64 0):=(blk_cell BK136.out 0).trans rfl;have hcz5_1:w4.cell? ⟨gb136,1,none⟩ = some (.int .i64 0):=(blk_cell BK136.out 1).trans rfl;have hfz5_0:=blk_frozen BK136.out 0;have hfz5_1:=blk_frozen BK136.out 1))
 refine bodyPost_ret (results_cell_row rfl _ _ gb136 23 #[.int .i64 t137,.int .i64 t138] (0,0) _ rfl (by (with_reducible repeat (first | refine blk_drewN ?_ _ | refine blk_drew ?_ | refine blk_alloc ?_ _));refine blk_put (cs:=#[.int .i64 t137,.int .i64 0]) ?_ 1 _ rfl;(with_reducible repeat (first | refine blk_drewN ?_ _ | refine blk_drew ?_ | refine blk_alloc ?_ _));refine blk_put (cs:=#[.int .i64 0,.int .i64 0]) ?_ 0 _ rfl;(with_reducible repeat (first | refine blk_drewN ?_ _ | refine blk_drew ?_ | refine blk_alloc ?_ _));exact BK136.out) Try.underlying23 rfl (by kernel_rfl)) rfl ?_
 exact ⟨by first | rfl | (simp [errW_none,errW_some] <;> rfl) | (simp [*,errW_none,errW_some] <;> rfl),by repeat (first | (with_reducible first | exact HB.out | apply below_alloc | apply pw_below_drewN | apply below_drew1 | refine below_set ?_ GE136.out) | exact HB.out)⟩
def each_prop.l0 (est all:Int):Nat → List (S23) → List Int → Int → Int → Option ((List (S23)))
 | 0,_,_,_,_=>none
 | k + 1,x5,x9,x10,x11=>if x11 < x10 then (if 0 ≤ x11 then (if x11 < (x9.length:Int) then ((prop_1.f k (rd x9 x11) est all).bind fun bt1611=>(if x5.length < 8796093022208 then (each_prop.l0 est all k (x5 ++ [(⟨bt1611.1,bt1611.2⟩:S23)]) x9 x10 (wrap64 (x11 + 1))) else (none))) else (none)) else (none)) else (some x5)
def each_prop.f (est all:Int) (k:Nat) (l0_0:List Int) (a0_1:Int):Option ((List (S23))):=each_prop.l0 est all k ([]:List (S23)) l0_0 (l0_0.length:Int) 0
theorem each_prop.mono_l (est all:Int):∀ k,(∀ y0 y1 y2 y3,LeO (each_prop.l0 est all k y0 y1 y2 y3) (each_prop.l0 est all (k + 1) y0 y1 y2 y3))
 | 0=>fun _ _ _ _ r h=>by simp [each_prop.l0] at h
 | k + 1=>by
  have ih0:=each_prop.mono_l est all k
  intro y0 y1 y2 y3
  unfold each_prop.l0
  repeat' first
  | (with_reducible exact ih0 _ _ _ _)
  | (with_reducible exact prop_1.mono _ _ _ _)
  | (with_reducible exact LeO.refl _)
  | (with_reducible exact LeO.none _)
  | (with_reducible refine LeO.ite ?_ ?_)
  | (with_reducible refine LeO.bind ?_ (fun _=>?_))
  | exact ih0 _ _ _ _
  | exact prop_1.mono _ _ _ _
  | exact LeO.none _
  | refine LeO.ite ?_ ?_
  | refine LeO.bind ?_ (fun _=>?_)
theorem each_prop.mono (est all:Int):∀ a0 a1 k,LeO (each_prop.f est all k a0 a1) (each_prop.f est all (k + 1) a0 a1):=by
 intro a0 a1 k
 have ih0:=each_prop.mono_l est all k
 unfold each_prop.f
 repeat' first
   | (with_reducible exact ih0 _ _ _ _)
   | (with_reducible exact prop_1.mono _ _ _ _)
   | (with_reducible exact LeO.refl _)
   | (with_reducible exact LeO.none _)
   | (with_reducible refine LeO.ite ?_ ?_)
   | (with_reducible refine LeO.bind ?_ (fun _=>?_))
   | exact ih0 _ _ _ _
   | exact prop_1.mono _ _ _ _
   | exact LeO.none _
   | refine LeO.ite ?_ ?_
   | refine LeO.bind ?_ (fun _=>?_)
set_option maxHeartbeats 8000000 in
set_option maxRecDepth 100000 in
theorem each_prop.calls (est all:Int) (k:Nat) (A0_0:Option Addr) (c0_0:Nat) (l0_0:List Int) (a0_1:Int) (r:List (S23)) (w:World) (gbC gbA:Nat) (A:Option Addr) (c n:Nat) (BK0:w.heap[gbC]? = some (.cells #[.slice A n c,.int .i64 est] 94 (0,0))) (BK1:w.heap[gbA]? = some (.cells #[.int .i64 all] 3 (0,0))) (hr0_0:Kd.C (Kd.int .i64) w A0_0 l0_0.length l0_0) (hc0_0:l0_0.length ≤ c0_0) (h:each_prop.f est all k l0_0 a0_1 = some r) :
  Calls Try.prog 120 #[.agg #[.slice A0_0 l0_0.length c0_0,.int .i64 a0_1],.func (.func 121) #[] #[.pointer (some ⟨gbC,0,none⟩),.pointer (some ⟨gbA,0,none⟩)]] w fun e w'=>∃ v0_:Value,e = .returned (v0_) ∧ Kd.R k23 23 w' w.heap.size (fun _=>True) v0_ r ∧ Below w.heap.size w w':=by
 have hu94:=Try.underlying94
 have BKC:=Aside0.mk BK0
 have BKA:=Aside0.mk BK1
 clear BK0 BK1
 have HR0_0:=Aside0.mk hr0_0
 have HC0_0:=Aside0.mk hc0_0
 clear hr0_0 hc0_0
 have HB:=Aside0.mk (Below.refl w.heap.size w)
 have H:(each_prop.l0 est all k ([]:List (S23)) l0_0 (l0_0.length:Int) 0) = some r:=h
 clear h
 have H':=Aside0.mk H
 clear H
 go_enter Try.func120,Try.ntmps120
 go_wp2_with (first | ((with_reducible refine gate_dst (N:=2) rfl ?_);refine box_event ?hg (N:=2) ?hd (cs:=#[.slice A0_0 l0_0.length c0_0,.int .i64 a0_1]) (t:=94) ?hr ?_;(case hd=>rfl);(case hg=>rfl);(case hr=>first | (go_simp;done) | (go_simp;rfl));intro gb1609 hg w2 hbox hb;have n0_:=Aside0.mk (below_step (by repeat (first | (with_reducible first | exact HB.out | apply below_alloc | apply pw_below_drewN | apply below_drew1) | exact HB.out)) hb);have n1_:=Aside0.mk (hbox);have n2_:=Aside0.mk ((by rw [hg];exact (below_size (by repeat (first | (with_reducible first | exact HB.out | apply below_alloc | apply pw_below_drewN | apply below_drew1) | exact HB.out))):w.heap.size ≤ gb1609));have n3_:=Aside0.mk ((by rw [hg];exact (below_size (by repeat (first | (with_reducible first | exact HB.out | apply below_alloc | apply pw_below_drewN | apply below_drew1) | exact HB.out))):w.heap.size ≤ gb1609));clear HB;have HB:=n0_;have BK1609:=n1_;have GW1609:=n2_;have GE1609:=n3_;clear n0_ n1_ n2_ n3_;clear hb hbox hg;have hcz3_0:w2.cell? ⟨gb1609,0,none⟩ = some (.slice A0_0 l0_0.length c0_0):=(blk_cell BK1609.out 0).trans rfl;have hcz3_1:w2.cell? ⟨gb1609,1,none⟩ = some (.int .i64 a0_1):=(blk_cell BK1609.out 1).trans rfl;have hfz3_0:=blk_frozen BK1609.out 0;have hfz3_1:=blk_frozen BK1609.out 1))
 go_loopg [5,11] k (fun kq v5 v11 w'=>∃ (x5_1:List (S23)) (x11_1:Int),v11 = .int .i64 x11_1 ∧ Aside0 (each_prop.l0 est all kq x5_1 l0_0 (l0_0.length:Int) x11_1 = some r) ∧ Aside0 (kq ≤ k) ∧ Aside0 (Kd.R k23 23 w' w.heap.size (fun _=>True) v5 x5_1) ∧ Aside0 (w'.heap[gb1609]? = some (.cells #[(.slice A0_0 l0_0.length c0_0),.int .i64 a0_1] 94 (0,0))) ∧ Aside0 (Below w.heap.size w w'))
 case atStart=>exact ⟨(([]:List (S23))),(0),(by first | rfl | (simp;done) | (simp [*];done)),H',⟨Nat.le_refl _⟩,⟨by first | exact Kd.R_nil _ _ _ _ _ | exact Kd.N_nil _ _ _ _ _ | exact Kd.V_nil _ _ _ _ _ | exact Kd.Q_nil _ _ _ _ _ | exact Kd.S_nil _ _ _ _ _⟩,⟨by (with_reducible repeat (first | refine blk_drewN ?_ _ | refine blk_drew ?_ | refine blk_alloc ?_ _));exact BK1609.out⟩,⟨by repeat (first | (with_reducible first | exact HB.out | apply below_alloc | apply pw_below_drewN | apply below_drew1 | refine below_set ?_ GE1609.out) | exact HB.out)⟩⟩
 case round =>
  clear H'
  try clear c1
  try clear p2
  try clear hcz3_0
  try clear hcz3_1
  try clear hfz3_0
  try clear hfz3_1
  obtain ⟨x5_1,x11_1,rfl,HA,HK1,HO_5,BK1609,HB⟩:=hrel
  cases gk with
  | zero=>exact absurd HA.out (by simp [each_prop.l0])
  | succ k1 =>
   have H:=HA.out
   clear HA
   simp only [each_prop.l0] at H
   by_cases c4:x11_1 < (l0_0.length:Int)
   case neg =>
    rw [if_neg c4] at H
    have c4b0:decide (x11_1 < (l0_0.length:Int)) = false:=decide_eq_false c4
    clear c4
    obtain rfl:=Option.some.inj H
    go_wp2
    go_ret
    exact ⟨_,by first | rfl | (simp [errW_none,errW_some] <;> rfl) | (simp [*,errW_none,errW_some] <;> rfl),by (with_reducible repeat (first | apply Kd.R_alloc | apply Kd.R_drewN | apply Kd.R_drew));exact HO_5.out,by repeat (first | (with_reducible first | exact HB.out | apply below_alloc | apply pw_below_drewN | apply below_drew1 | refine below_set ?_ GE1609.out) | exact HB.out)⟩
   rw [if_pos c4] at H
   have c4b0:decide (x11_1 < (l0_0.length:Int)) = true:=decide_eq_true c4
   clear c4
   by_cases c5:0 ≤ x11_1
   case neg =>
    rw [if_neg c5] at H
    exact absurd H (by simp)
   rw [if_pos c5] at H
   have c5b0:decide (0 ≤ x11_1) = true:=decide_eq_true c5
   clear c5
   by_cases c6:x11_1 < (l0_0.length:Int)
   case neg =>
    rw [if_neg c6] at H
    exact absurd H (by simp)
   rw [if_pos c6] at H
   have c6b0:decide (x11_1 < (l0_0.length:Int)) = true:=decide_eq_true c6
   clear c6
   replace H:=Option.bind_eq_some_iff.mp H
   obtain ⟨⟨t1611,t1612⟩,A70,H⟩:=H
   replace H:(if x5_1.length < 8796093022208 then (each_prop.l0 est all k1 (x5_1 ++ [(⟨t1611,t1612⟩:S23)]) l0_0 (l0_0.length:Int) (wrap64 (x11_1 + 1))) else (none)) = some r:=H
   have A7:=Aside0.mk A70
   clear A70
   by_cases c8:x5_1.length < 8796093022208
   case neg =>
    rw [if_neg c8] at H
    exact absurd H (by simp)
   rw [if_pos c8] at H
   have LMc8:=Aside0.mk c8
   clear c8
   obtain ⟨y1613,hy1613⟩:∃ y_:List (S23),y_ = (x5_1 ++ [(⟨t1611,t1612⟩:S23)]):=⟨_,rfl⟩
   replace H:(each_prop.l0 est all k1 y1613 l0_0 (l0_0.length:Int) (wrap64 (x11_1 + 1))) = some r:=by first | (rw [hy1613];with_reducible exact H) | (have H2_:=(Option.bind_some _ _).symm.trans H;rw [hy1613];with_reducible exact H2_) | (have H2_:=(Option.bind_some _ _).symm.trans H;with_reducible exact H2_) | with_reducible exact H | (rw [hy1613];exact H) | exact H
   have Ny1613:=Aside0.mk hy1613
   clear hy1613
   have H':=Aside0.mk H
   clear H
   have p1610:0 ≤ (x11_1:Int):=of_decide_eq_true (by first | (with_reducible assumption) | assumption)
   have q1610:x11_1 < (l0_0.length:Int):=of_decide_eq_true (by first | (with_reducible assumption) | assumption)
   obtain ⟨ad1610,e1610,hx1610_0⟩:=Kd.at_int HR0_0.out x11_1 p1610 q1610
   cases e1610
   replace hx1610_0:=(HB.out.cell (World.block_lt_of_cell? w _ hx1610_0)).trans hx1610_0
   replace p1610:=eq_true p1610
   replace q1610:=eq_true q1610
   go_wp2_with (first | (go_at_call 121;(with_reducible refine (prop_1.calls k1 (rd l0_0 x11_1) est all t1611 t1612 _ gbC gbA A c n (blk_below (g:=gbC) (o:=.cells #[.slice A n c,.int .i64 est] 94 (0,0)) BKC.out (by repeat (first | (with_reducible first | exact HB.out | apply below_alloc | apply pw_below_drewN | apply below_drew1 | refine below_set ?_ GE1609.out) | exact HB.out))) (blk_below (g:=gbA) (o:=.cells #[.int .i64 all] 3 (0,0)) BKA.out (by repeat (first | (with_reducible first | exact HB.out | apply below_alloc | apply pw_below_drewN | apply below_drew1 | refine below_set ?_ GE1609.out) | exact HB.out))) A7.out).mono ?_);rintro e w9 ⟨rfl,hb⟩;have n0_:=Aside0.mk (Kd.R_below (by (with_reducible repeat (first | apply Kd.R_alloc | apply Kd.R_drewN | apply Kd.R_drew));exact HO_5.out) hb);have n1_:=Aside0.mk (blk_below (g:=gb1609) (o:=.cells #[.slice (some ad1610) l0_0.length c0_0,.int .i64 a0_1] 94 (0,0)) (by (with_reducible repeat (first | refine blk_drewN ?_ _ | refine blk_drew ?_ | refine blk_alloc ?_ _));exact BK1609.out) hb);have n2_:=Aside0.mk (below_step (by repeat (first | (with_reducible first | exact HB.out | apply below_alloc | apply pw_below_drewN | apply below_drew1 | refine below_set ?_ GE1609.out) | exact HB.out)) hb);clear HO_5;clear BK1609;clear HB;have HO_5:=n0_;have BK1609:=n1_;have HB:=n2_;clear n0_ n1_ n2_;(try clear hb);(try clear hb2);(try clear hk);(try clear hi)) | ((with_reducible refine gate_builtin (b:=.append) (xs:=#[.tmp 15,.tmp 19]) rfl ?_);at_builtin;refine Kd.R_append k23 (w0:=w) w.heap.size rfl (.tmp 15) (.tmp 19) 35 23 (.agg #[(.int .i64 0),(.int .i64 0)]) 16 rfl Try.underlying35 info23 rfl (by decide) (by omega) u5 x5_1 (⟨t1611,t1612⟩:S23) [.int .i64 t1611,.int .i64 t1612] (fun _=>True) (fun _=>False) rfl rfl ?aP (fun _ hk=>hk.elim) ?aF ?aO ?aB ?aS ?aL ?_;(case aP=>exact k23_mkM _ _ _ (⟨t1611,t1612⟩:S23));(case aB=>exact (by repeat (first | (with_reducible first | exact HB.out | apply below_alloc | apply pw_below_drewN | apply below_drew1 | refine below_set ?_ GE1609.out) | exact HB.out)));(case aF=>exact (fun _ _=>trivial));(case aO=>exact (by (with_reducible repeat (first | apply Kd.R_alloc | apply Kd.R_drewN | apply Kd.R_drew));exact HO_5.out));(case aS=>exact (below_size (by repeat (first | (with_reducible first | exact HB.out | apply below_alloc | apply pw_below_drewN | apply below_drew1 | refine below_set ?_ GE1609.out) | exact HB.out))));(case aL=>have:=LMc8.out;omega);intro v1614 w10 ho hb hg hat;rw [← Ny1613.out] at ho;have n0_:=Aside0.mk (blk_grown (g:=gb1609) (o:=.cells #[.slice (some ad1610) l0_0.length c0_0,.int .i64 a0_1] 94 (0,0)) (by (with_reducible repeat (first | refine blk_drewN ?_ _ | refine blk_drew ?_ | refine blk_alloc ?_ _));exact BK1609.out) hg (Kd.R_ne HO_5.out BK1609.out (by decide)));have n1_:=Aside0.mk (hb);have n2_:=Aside0.mk (ho);clear BK1609;clear HB;clear HO_5;have BK1609:=n0_;have HB:=n1_;have HO1615:=n2_;clear n0_ n1_ n2_;clear ho hb hg hat))
   go_roundg k1
   case measure=>have:=HK1.out;omega
   case rel=>exact ⟨(y1613),(wrap64 (x11_1 + 1)),(by first | rfl | (simp;done) | (simp [*];done)),H',⟨by have:=HK1.out;omega⟩,⟨by (with_reducible repeat (first | apply Kd.R_alloc | apply Kd.R_drewN | apply Kd.R_drew));exact HO1615.out⟩,⟨by (with_reducible repeat (first | refine blk_drewN ?_ _ | refine blk_drew ?_ | refine blk_alloc ?_ _));exact BK1609.out⟩,⟨by repeat (first | (with_reducible first | exact HB.out | apply below_alloc | apply pw_below_drewN | apply below_drew1 | refine below_set ?_ GE1609.out) | exact HB.out)⟩⟩
def shares_claims_proportional.f (k:Nat) (l0_0:List Int) (a0_1:Int):Option (List (S23)):=(shares_total.f k l0_0).bind fun t=>each_prop.f a0_1 (mx 1 t) k l0_0 a0_1
theorem shares_claims_proportional.mono:∀ a0 a1 k,LeO (shares_claims_proportional.f k a0 a1) (shares_claims_proportional.f (k + 1) a0 a1):=by
 intro a0 a1 k
 unfold shares_claims_proportional.f
 exact LeO.bind (shares_total.mono _ _) (fun _=>each_prop.mono _ _ _ _ _)
set_option maxHeartbeats 8000000 in
set_option maxRecDepth 100000 in
theorem shares_claims_proportional.calls (k:Nat) (A0_0:Option Addr) (c0_0:Nat) (l0_0:List Int) (a0_1:Int) (r:List (S23)) (w:World) (hr0_0:Kd.C (Kd.int .i64) w A0_0 l0_0.length l0_0) (hc0_0:l0_0.length ≤ c0_0) (h:shares_claims_proportional.f k l0_0 a0_1 = some r) :
  Calls Try.prog 97 #[.agg #[.slice A0_0 l0_0.length c0_0,.int .i64 a0_1]] w fun e w'=>∃ v0_:Value,e = .returned (v0_) ∧ Kd.R k23 23 w' w.heap.size (fun _=>True) v0_ r ∧ Below w.heap.size w w':=by
 have hu94:=Try.underlying94
 have HR0:=Aside0.mk hr0_0
 have HC0:=Aside0.mk hc0_0
 clear hr0_0 hc0_0
 have HB:=Aside0.mk (Below.refl w.heap.size w)
 unfold shares_claims_proportional.f at h
 obtain ⟨t,h1,h2⟩:=Option.bind_eq_some_iff.1 h
 have A1:=Aside0.mk h1
 have A2:=Aside0.mk h2
 clear h h1 h2
 go_enter Try.func97,Try.ntmps97
 go_wp2_with (first | ((with_reducible refine gate_dst (N:=1) rfl ?_);refine box_event ?hg (N:=1) ?hd (cs:=#[.slice A0_0 l0_0.length c0_0,.int .i64 a0_1]) (t:=94) ?hr ?_;(case hd=>rfl);(case hg=>rfl);(case hr=>first | (go_simp;done) | (go_simp;rfl));intro gbC hg w2 hbox hb;have n0_:=Aside0.mk (below_step HB.out hb);have n1_:=Aside0.mk hbox;clear HB;have HB:=n0_;have BKC:=n1_;clear n0_ n1_;clear hb hbox hg;have hczC:=(blk_cell BKC.out 0).trans rfl))
 refine (shares_total.calls k A0_0 c0_0 l0_0 t _ (Kd.C_below HR0.out HB.out) HC0.out A1.out).mono ?_
 rintro e w3 ⟨rfl,⟨n3,rfl⟩⟩
 clear hczC
 have HB3:=Aside0.mk (pw_below_drewN HB.out n3)
 have BKC3:=Aside0.mk (blk_drewN BKC.out n3)
 clear HB BKC
 by_cases hm:1 < t
 all_goals
  go_wp2_with (first | ((with_reducible refine gate_dst (N:=3) rfl ?_);refine box_event ?hg (N:=3) ?hd (cs:=#[.int .i64 0]) (t:=3) ?hr ?_;(case hd=>rfl);(case hg=>rfl);(case hr=>first | (go_simp;done) | (go_simp;rfl));intro gbA hg w4 hbox hb;have n0_:=Aside0.mk (below_step HB3.out hb);have n1_:=Aside0.mk hbox;have n2_:=Aside0.mk (blk_below (g:=gbC) (o:=.cells #[.slice A0_0 l0_0.length c0_0,.int .i64 a0_1] 94 (0,0)) BKC3.out hb);have n3_:=Aside0.mk (by rw [hg];exact HB3.out.size:w.heap.size ≤ gbA);have n4_:=Aside0.mk (by rw [hg];exact Nat.ne_of_gt (blk_lt BKC3.out):gbA ≠ gbC);clear HB3 BKC3;have HB:=n0_;have BKA:=n1_;have BKC:=n2_;have GEA:=n3_;have NEA:=n4_;clear n0_ n1_ n2_ n3_ n4_;clear hb hbox hg;have hczA:=(blk_cell BKA.out 0).trans rfl;have hfzA:=blk_frozen BKA.out 0;have hczC:=(blk_cell BKC.out 0).trans rfl;have hczC1:=(blk_cell BKC.out 1).trans rfl;have hne:=NEA.out))
  first
   | (have hx:mx 1 t = t:=by unfold mx;rw [if_pos (by first | exact hm | assumption | omega)])
   | (have hx:mx 1 t = 1:=by unfold mx;rw [if_neg (by first | exact hm | assumption | omega)])
  have A3:=A2.out
  rw [hx] at A3
  clear hx hczA hfzA hczC hczC1 hne
  refine (each_prop.calls a0_1 _ k A0_0 c0_0 l0_0 a0_1 r _ gbC gbA A0_0 c0_0 l0_0.length (blk_far BKC.out (by exact fun e=>NEA.out e.symm) _) (blk_put BKA.out 0 _ rfl) (Kd.C_below HR0.out (below_set HB.out GEA.out)) HC0.out A3).mono ?_
  rintro e w5 ⟨v,rfl,hr,hb⟩
  have HR5:=Aside0.mk (Kd.R_lower hr (below_set (j:=0) HB.out GEA.out).size)
  have HB5:=Aside0.mk (below_step (below_set HB.out GEA.out) hb)
  clear hr hb
  go_wp2
  go_ret
  exact ⟨_,rfl,HR5.out,HB5.out⟩
end Go.Proofs.Ytjohcjfmlhihbaa.G
namespace Go.Proofs.Ytjohcjfmlhihbaa.G
open Go Go.RowKit Go.Shelf Go.Proofs.Ytjohcjfmlhihbaa.H Go.Proofs.YtjohcjfmlhihbaaW.PrintWords
attribute [local go_sem] Oper.semAt_some wide_fn
def newClaimsR.f (k:Nat) (l0:List Int) (a1:Int):Option Bool:=(shares_newClaims.f k l0 a1).map fun x=>x.2.2
theorem newClaimsR.mono:∀ l0 a1 k,LeO (newClaimsR.f k l0 a1) (newClaimsR.f (k + 1) l0 a1):=by
 intro l0 a1 k r h
 unfold newClaimsR.f at h ⊢
 obtain ⟨x,hx,rfl⟩:=Option.map_eq_some_iff.1 h
 rw [shares_newClaims.mono _ _ _ x hx]
 rfl
theorem newClaimsR.parts {k:Nat} {l0:List Int} {a1:Int} {r:Bool} (h:newClaimsR.f k l0 a1 = some r) :
  (shares_areClaims.f l0 = some false ∧ r = false) ∨ (shares_areClaims.f l0 = some true ∧ ∃ t,shares_total.f k l0 = some t ∧ r = decide (0 ≤ a1 ∧ a1 ≤ t)):=by
 unfold newClaimsR.f shares_newClaims.f at h
 obtain ⟨x,hx,rfl⟩:=Option.map_eq_some_iff.1 h
 obtain ⟨b,hb,hx⟩:=Option.bind_eq_some_iff.1 hx
 cases b with
 | false =>
  rw [if_neg (by decide)] at hx
  obtain rfl:=Option.some.inj hx
  exact .inl ⟨hb,rfl⟩
 | true =>
  rw [if_pos rfl] at hx
  obtain ⟨t,ht,hx⟩:=Option.bind_eq_some_iff.1 hx
  obtain ⟨q,hq,hx⟩:=Option.bind_eq_some_iff.1 hx
  obtain rfl:=Option.some.inj hx
  refine .inr ⟨hb,t,ht,?_⟩
  unfold shares_within.f at hq
  by_cases g:a1 ≥ 0
  case neg =>
   rw [if_neg g] at hq
   obtain rfl:=Option.some.inj hq
   show false = decide (0 ≤ a1 ∧ a1 ≤ t)
   rw [eq_comm,decide_eq_false_iff_not]
   exact fun k=>g k.1
  rw [if_pos g] at hq
  obtain rfl:=Option.some.inj hq
  show decide (a1 ≤ t) = decide (0 ≤ a1 ∧ a1 ≤ t)
  rw [Bool.eq_iff_iff,decide_eq_true_iff,decide_eq_true_iff]
  exact ⟨fun k=>⟨g,k⟩,fun k=>k.2⟩
set_option maxHeartbeats 2000000 in
theorem newClaimsR.calls (k:Nat) (A0:Option Addr) (c0:Nat) (l0:List Int) (a1:Int) (r:Bool) (w:World) (hr0:Kd.C (Kd.int .i64) w A0 l0.length l0) (hc0:l0.length ≤ c0) (h:newClaimsR.f k l0 a1 = some r) :
  Calls Try.prog 62 #[.slice A0 l0.length c0,.int .i64 a1] w fun e w'=>e = .returned (.tuple #[.agg #[.slice A0 l0.length c0,.int .i64 a1],.bool r]) ∧ Below w.heap.size w w':=by
 refine (callsIn_wide (n:=9)).1 ?_
 refine callsIn_of_wp Try.func62 rfl trivial ?_
 simp only [Try.ntmps62,List.size_toArray,List.length_cons,List.length_nil,Nat.reduceAdd,Nat.reduceSub,Array.replicate_succ,Array.replicate_zero,List.push_toArray,List.append_toArray,List.nil_append,List.cons_append]
 have HL:=Lib.hid (Kd.C_alloc hr0 (.cells #[.slice none 0 0,.int .i64 0] 94))
 obtain ⟨a,b,c⟩:=lay1 w (.cells #[.slice none 0 0,.int .i64 0] 94)
 have HA:=Lib.hid a
 have HS:=Lib.hid b
 have HB:=Lib.hid c
 have HH:=Lib.hid (newClaimsR.parts h)
 clear h hr0 a b c
 gi_wp2_with fail
 rcases HH.out with ⟨h1,rfl⟩ | ⟨h1,t,h2,rfl⟩
 ·refine (callsIn_wide.2 (shares_areClaims.calls A0 c0 l0 false _ HL.out hc0 h1)).mono ?_
  rintro e w1 ⟨rfl,hb⟩
  have hc:=(hb.block _ (by rw [HS.out];omega)).trans HA.out
  have HC:=Lib.hid hc
  have k0:=(blk_cell hc 0).trans rfl
  have k1:=(blk_cell hc 1).trans rfl
  have f0:=blk_frozen hc 0
  have f1:=blk_frozen hc 1
  have HB1:=Lib.hid (HB.out.trans (hb.mono HB.out.size))
  clear hb h1 hc
  gi_wp2_with fail
  refine bodyPost_ret (results_ct rfl _ _ w.heap.size 94 #[.slice A0 l0.length c0,.int .i64 a1] (0,0) _ rfl (blk_put (blk_put HC.out 0 _ rfl) 1 _ rfl) Try.underlying94 rfl (by kernel_rfl)) rfl ⟨rfl,below_set (below_set HB1.out (Nat.le_refl _)) (Nat.le_refl _)⟩
 refine (callsIn_wide.2 (shares_areClaims.calls A0 c0 l0 true _ HL.out hc0 h1)).mono ?_
 rintro e w1 ⟨rfl,hb⟩
 have hc:=(hb.block _ (by rw [HS.out];omega)).trans HA.out
 have HC:=Lib.hid hc
 have k0:=(blk_cell hc 0).trans rfl
 have k1:=(blk_cell hc 1).trans rfl
 have f0:=blk_frozen hc 0
 have f1:=blk_frozen hc 1
 have HL1:=Lib.hid (Kd.C_below HL.out hb)
 have HB1:=Lib.hid (HB.out.trans (hb.mono HB.out.size))
 clear hb h1 hc
 gi_wp2_with fail
 refine (callsIn_wide.2 (shares_total.calls k A0 c0 l0 t _ HL1.out hc0 h2)).mono ?_
 rintro e w2 ⟨rfl,⟨n2,rfl⟩⟩
 gi_wp2_with fail
 refine (callsIn_wide.2 (within_val a1 0 t _)).mono ?_
 rintro e w3 ⟨rfl,⟨n3,rfl⟩⟩
 obtain ⟨q,hq⟩:∃ q,decide (0 ≤ a1 ∧ a1 ≤ t) = q:=⟨_,rfl⟩
 rw [hq]
 have HQ:=Lib.hid hq
 clear hq
 gi_wp2_with fail
 exact bodyPost_ret (results_ct rfl _ _ w.heap.size 94 #[.slice A0 l0.length c0,.int .i64 a1] (0,0) _ rfl (blk_put (blk_put (blk_drewN HC.out _) 0 _ rfl) 1 _ rfl) Try.underlying94 rfl (by kernel_rfl)) rfl ⟨by rw [HQ.out];rfl,below_set (below_set (below_drewN HB1.out _) (Nat.le_refl _)) (Nat.le_refl _)⟩
end Go.Proofs.Ytjohcjfmlhihbaa.G
namespace Go.Proofs.Ytjohcjfmlhihbaa.G
open Go.RowKit Go.Proofs.YtjohcjfmlhihbaaW.PrintWords Go.Proofs.YtjohcjfmlhihbaaW.PrintLast Go.Proofs.YtjohcjfmlhihbaaW.PrintMore
set_option maxHeartbeats 8000000
set_option maxRecDepth 100000
attribute [local go_sem] cond_true cond_false fld23_0 fld23_1 fld45_0 fld45_1 fld109_0 fld109_1 fld94_0 fld94_1 max2_int min2_int max_two min_two max_three min_three max_four min_four   -- for this text's walks alone
def each_whole.l0:Nat → List (S23) → List Int → Int → Int → Option ((List (S23)))
 | 0,_,_,_,_=>none
 | k + 1,x5,x9,x10,e9=>if e9 < x10 then (if 0 ≤ e9 then (if e9 < (x9.length:Int) then ((shares_whole.f (rd x9 e9)).bind fun d2=>(if x5.length < 8796093022208 then (each_whole.l0 k (x5 ++ [(⟨d2.1,d2.2⟩:S23)]) x9 x10 (wrap64 (e9 + 1))) else (none))) else (none)) else (none)) else (some x5)
def each_whole.f (k:Nat) (b1:List Int) (b9:Int):Option ((List (S23))):=each_whole.l0 k ([]:List (S23)) b1 (b1.length:Int) 0
theorem each_whole.mono_l:∀ k,(∀ y0 y1 y2 y3,LeO (each_whole.l0 k y0 y1 y2 y3) (each_whole.l0 (k + 1) y0 y1 y2 y3))
 | 0=>fun _ _ _ _ r h=>by simp [each_whole.l0] at h
 | k + 1=>by
  have h0:=each_whole.mono_l k
  intro y0 y1 y2 y3
  unfold each_whole.l0
  repeat' first
  | (with_reducible exact h0 _ _ _ _)
  | (with_reducible exact LeO.refl _)
  | (with_reducible exact LeO.none _)
  | (with_reducible refine LeO.ite ?_ ?_)
  | (with_reducible refine LeO.bind ?_ (fun _=>?_))
  | exact h0 _ _ _ _
  | exact LeO.none _
  | refine LeO.ite ?_ ?_
  | refine LeO.bind ?_ (fun _=>?_)
theorem each_whole.mono:∀ a0 a1 k,LeO (each_whole.f k a0 a1) (each_whole.f (k + 1) a0 a1):=by
 intro a0 a1 k
 have h0:=each_whole.mono_l k
 unfold each_whole.f
 repeat' first
   | (with_reducible exact h0 _ _ _ _)
   | (with_reducible exact LeO.refl _)
   | (with_reducible exact LeO.none _)
   | (with_reducible refine LeO.ite ?_ ?_)
   | (with_reducible refine LeO.bind ?_ (fun _=>?_))
   | exact h0 _ _ _ _
   | exact LeO.none _
   | refine LeO.ite ?_ ?_
   | refine LeO.bind ?_ (fun _=>?_)
theorem each_whole.calls (k:Nat) (d3:Option Addr) (d0:Nat) (b1:List Int) (b9:Int) (r:List (S23)) (w:World) (d7:Kd.C (Kd.int .i64) w d3 b1.length b1) (d8:b1.length ≤ d0) (h:each_whole.f k b1 b9 = some r) :
  Calls Try.prog 120 #[.agg #[.slice d3 b1.length d0,.int .i64 b9],.func (.func 64) #[] #[]] w fun e w'=>∃ h7:Value,e = .returned (h7) ∧ Kd.R k23 23 w' w.heap.size (fun _=>True) h7 r ∧ Below w.heap.size w w':=by
 have i2:=Try.underlying94
 have h1:=Aside0.mk d7
 have h8:=Aside0.mk d8
 clear d7 d8
 have HB:=Aside0.mk (Below.refl w.heap.size w)
 have H:(each_whole.l0 k ([]:List (S23)) b1 (b1.length:Int) 0) = some r:=h
 clear h
 have H':=Aside0.mk H
 clear H
 go_enter Try.func120,Try.ntmps120
 go_wp2_with (first | ((with_reducible refine gate_dst (N:=2) rfl ?_);refine box_event ?hg (N:=2) ?hd (cs:=#[.slice d3 b1.length d0,.int .i64 b9]) (t:=94) ?hr ?_;(case hd=>rfl);(case hg=>rfl);(case hr=>first | (go_simp;done) | (go_simp;rfl));intro b3 hg w2 hbox hb;have d9:=Aside0.mk (below_step (by repeat (first | (with_reducible first | exact HB.out | apply below_alloc | apply pw_below_drewN | apply below_drew1) | exact HB.out)) hb);have e0:=Aside0.mk (hbox);have e1:=Aside0.mk ((by rw [hg];exact (below_size (by repeat (first | (with_reducible first | exact HB.out | apply below_alloc | apply pw_below_drewN | apply below_drew1) | exact HB.out))):w.heap.size ≤ b3));have h9:=Aside0.mk ((by rw [hg];exact (below_size (by repeat (first | (with_reducible first | exact HB.out | apply below_alloc | apply pw_below_drewN | apply below_drew1) | exact HB.out))):w.heap.size ≤ b3));clear HB;have HB:=d9;have b0:=e0;have h3:=e1;have b4:=h9;clear d9 e0 e1 h9;clear hb hbox hg;have e3:w2.cell? ⟨b3,0,none⟩ = some (.slice d3 b1.length d0):=(blk_cell b0.out 0).trans rfl;have e4:w2.cell? ⟨b3,1,none⟩ = some (.int .i64 b9):=(blk_cell b0.out 1).trans rfl;have e5:=blk_frozen b0.out 0;have e6:=blk_frozen b0.out 1))
 go_loopg [5,11] k (fun kq v5 i3 w'=>∃ (c0:List (S23)) (b2:Int),i3 = .int .i64 b2 ∧ Aside0 (each_whole.l0 kq c0 b1 (b1.length:Int) b2 = some r) ∧ Aside0 (kq ≤ k) ∧ Aside0 (Kd.R k23 23 w' w.heap.size (fun _=>True) v5 c0) ∧ Aside0 (w'.heap[b3]? = some (.cells #[(.slice d3 b1.length d0),.int .i64 b9] 94 (0,0))) ∧ Aside0 (Below w.heap.size w w'))
 case atStart=>exact ⟨(([]:List (S23))),(0),(by first | rfl | (simp;done) | (simp [*];done)),H',⟨Nat.le_refl _⟩,⟨by first | exact Kd.R_nil _ _ _ _ _ | exact Kd.N_nil _ _ _ _ _ | exact Kd.V_nil _ _ _ _ _ | exact Kd.Q_nil _ _ _ _ _ | exact Kd.S_nil _ _ _ _ _⟩,⟨by (with_reducible repeat (first | refine blk_drewN ?_ _ | refine blk_drew ?_ | refine blk_alloc ?_ _));exact b0.out⟩,⟨by repeat (first | (with_reducible first | exact HB.out | apply below_alloc | apply pw_below_drewN | apply below_drew1 | refine below_set ?_ b4.out) | exact HB.out)⟩⟩
 case round =>
  clear H'
  try clear c1
  try clear p2
  try clear e3
  try clear e4
  try clear e5
  try clear e6
  obtain ⟨c0,b2,rfl,HA,i0,d1,b0,HB⟩:=hrel
  cases gk with
  | zero=>exact absurd HA.out (by simp [each_whole.l0])
  | succ k1 =>
   have H:=HA.out
   clear HA
   simp only [each_whole.l0] at H
   by_cases c4:b2 < (b1.length:Int)
   case neg =>
    rw [if_neg c4] at H
    have h4:decide (b2 < (b1.length:Int)) = false:=decide_eq_false c4
    clear c4
    obtain rfl:=Option.some.inj H
    go_wp2
    go_ret
    exact ⟨_,by first | rfl | (simp [errW_none,errW_some] <;> rfl) | (simp [*,errW_none,errW_some] <;> rfl),by (with_reducible repeat (first | apply Kd.R_alloc | apply Kd.R_drewN | apply Kd.R_drew));exact d1.out,by repeat (first | (with_reducible first | exact HB.out | apply below_alloc | apply pw_below_drewN | apply below_drew1 | refine below_set ?_ b4.out) | exact HB.out)⟩
   rw [if_pos c4] at H
   have h4:decide (b2 < (b1.length:Int)) = true:=decide_eq_true c4
   clear c4
   by_cases c5:0 ≤ b2
   case neg =>
    rw [if_neg c5] at H
    exact absurd H (by simp)
   rw [if_pos c5] at H
   have i4:decide (0 ≤ b2) = true:=decide_eq_true c5
   clear c5
   by_cases c6:b2 < (b1.length:Int)
   case neg =>
    rw [if_neg c6] at H
    exact absurd H (by simp)
   rw [if_pos c6] at H
   have i5:decide (b2 < (b1.length:Int)) = true:=decide_eq_true c6
   clear c6
   replace H:=Option.bind_eq_some_iff.mp H
   obtain ⟨⟨b7,b8⟩,A70,H⟩:=H
   replace H:(if c0.length < 8796093022208 then (each_whole.l0 k1 (c0 ++ [(⟨b7,b8⟩:S23)]) b1 (b1.length:Int) (wrap64 (b2 + 1))) else (none)) = some r:=H
   have A7:=Aside0.mk A70
   clear A70
   by_cases c8:c0.length < 8796093022208
   case neg =>
    rw [if_neg c8] at H
    exact absurd H (by simp)
   rw [if_pos c8] at H
   have h5:=Aside0.mk c8
   clear c8
   obtain ⟨e2,b5⟩:∃ y_:List (S23),y_ = (c0 ++ [(⟨b7,b8⟩:S23)]):=⟨_,rfl⟩
   replace H:(each_whole.l0 k1 e2 b1 (b1.length:Int) (wrap64 (b2 + 1))) = some r:=by first | (rw [b5];with_reducible exact H) | (have h6:=(Option.bind_some _ _).symm.trans H;rw [b5];with_reducible exact h6) | (have h6:=(Option.bind_some _ _).symm.trans H;with_reducible exact h6) | with_reducible exact H | (rw [b5];exact H) | exact H
   have e7:=Aside0.mk b5
   clear b5
   have H':=Aside0.mk H
   clear H
   have d4:0 ≤ (b2:Int):=of_decide_eq_true (by first | (with_reducible assumption) | assumption)
   have d5:b2 < (b1.length:Int):=of_decide_eq_true (by first | (with_reducible assumption) | assumption)
   obtain ⟨d6,h2,b6⟩:=Kd.at_int h1.out b2 d4 d5
   cases h2
   replace b6:=(HB.out.cell (World.block_lt_of_cell? w _ b6)).trans b6
   replace d4:=eq_true d4
   replace d5:=eq_true d5
   go_wp2_with (first | (go_at_call 64;(with_reducible refine (shares_whole.calls (rd b1 b2) b7 b8 _ A7.out).mono ?_);rintro e w9 ⟨rfl,hb⟩;have d9:=Aside0.mk (Kd.R_below (by (with_reducible repeat (first | apply Kd.R_alloc | apply Kd.R_drewN | apply Kd.R_drew));exact d1.out) hb);have e0:=Aside0.mk (blk_below (g:=b3) (o:=.cells #[.slice (some d6) b1.length d0,.int .i64 b9] 94 (0,0)) (by (with_reducible repeat (first | refine blk_drewN ?_ _ | refine blk_drew ?_ | refine blk_alloc ?_ _));exact b0.out) hb);have e1:=Aside0.mk (below_step (by repeat (first | (with_reducible first | exact HB.out | apply below_alloc | apply pw_below_drewN | apply below_drew1 | refine below_set ?_ b4.out) | exact HB.out)) hb);clear d1;clear b0;clear HB;have d1:=d9;have b0:=e0;have HB:=e1;clear d9 e0 e1;(try clear hb)) | ((with_reducible refine gate_builtin (b:=.append) (xs:=#[.tmp 15,.tmp 19]) rfl ?_);at_builtin;refine Kd.R_append k23 (w0:=w) w.heap.size rfl (.tmp 15) (.tmp 19) 35 23 (.agg #[(.int .i64 0),(.int .i64 0)]) 16 rfl Try.underlying35 info23 rfl (by decide) (by omega) u5 c0 (⟨b7,b8⟩:S23) [.int .i64 b7,.int .i64 b8] (fun _=>True) (fun _=>False) rfl rfl ?aP (fun _ hk=>hk.elim) ?aF ?aO ?aB ?aS ?aL ?_;(case aP=>exact k23_mkM _ _ _ (⟨b7,b8⟩:S23));(case aB=>exact (by repeat (first | (with_reducible first | exact HB.out | apply below_alloc | apply pw_below_drewN | apply below_drew1 | refine below_set ?_ b4.out) | exact HB.out)));(case aF=>exact (fun _ _=>trivial));(case aO=>exact (by (with_reducible repeat (first | apply Kd.R_alloc | apply Kd.R_drewN | apply Kd.R_drew));exact d1.out));(case aS=>exact (below_size (by repeat (first | (with_reducible first | exact HB.out | apply below_alloc | apply pw_below_drewN | apply below_drew1 | refine below_set ?_ b4.out) | exact HB.out))));(case aL=>have:=h5.out;omega);intro i1 i6 ho hb hg hat;rw [← e7.out] at ho;have d9:=Aside0.mk (blk_grown (g:=b3) (o:=.cells #[.slice (some d6) b1.length d0,.int .i64 b9] 94 (0,0)) (by (with_reducible repeat (first | refine blk_drewN ?_ _ | refine blk_drew ?_ | refine blk_alloc ?_ _));exact b0.out) hg (Kd.R_ne d1.out b0.out (by decide)));have e0:=Aside0.mk (hb);have e1:=Aside0.mk (ho);clear b0;clear HB;clear d1;have b0:=d9;have HB:=e0;have e8:=e1;clear d9 e0 e1;clear ho hb hg hat))
   go_roundg k1
   case measure=>have:=i0.out;omega
   case rel=>exact ⟨(e2),(wrap64 (b2 + 1)),(by first | rfl | (simp;done) | (simp [*];done)),H',⟨by have:=i0.out;omega⟩,⟨by (with_reducible repeat (first | apply Kd.R_alloc | apply Kd.R_drewN | apply Kd.R_drew));exact e8.out⟩,⟨by (with_reducible repeat (first | refine blk_drewN ?_ _ | refine blk_drew ?_ | refine blk_alloc ?_ _));exact b0.out⟩,⟨by repeat (first | (with_reducible first | exact HB.out | apply below_alloc | apply pw_below_drewN | apply below_drew1 | refine below_set ?_ b4.out) | exact HB.out)⟩⟩
end Go.Proofs.Ytjohcjfmlhihbaa.G
namespace Go.Proofs.Ytjohcjfmlhihbaa.G
open Go.RowKit Go.Proofs.YtjohcjfmlhihbaaW.PrintWords Go.Proofs.YtjohcjfmlhihbaaW.PrintLast Go.Proofs.YtjohcjfmlhihbaaW.PrintMore
set_option maxHeartbeats 8000000
set_option maxRecDepth 100000
attribute [local go_sem] cond_true cond_false fld23_0 fld23_1 fld45_0 fld45_1 fld109_0 fld109_1 fld94_0 fld94_1 max2_int min2_int max_two min_two max_three min_three max_four min_four
def shares_smaller.f (k:Nat) (b3:Int) (b5:Int) (b4:Int) (b6:Int):Option (Int × Int):=(shares_compare.f k b3 b5 b4 b6).bind fun d4=>(if d4 ≤ 0 then (some (b3,b5)) else (some (b4,b6)))
theorem shares_smaller.mono:∀ a0 a1 a2 a3 k,LeO (shares_smaller.f k a0 a1 a2 a3) (shares_smaller.f (k + 1) a0 a1 a2 a3):=by
 intro a0 a1 a2 a3 k
 unfold shares_smaller.f
 repeat' first
   | (with_reducible first | exact shares_compare.mono _ _ _ _ _ | exact LeO.refl _ | exact LeO.none _ | refine LeO.ite ?_ ?_ | refine LeO.bind ?_ (fun _=>?_))
   | exact LeO.none _ | refine LeO.ite ?_ ?_ | refine LeO.bind ?_ (fun _=>?_)
theorem shares_smaller.calls (k:Nat) (b3:Int) (b5:Int) (b4:Int) (b6:Int) (r1:Int) (r2:Int) (w:World) (h:shares_smaller.f k b3 b5 b4 b6 = some (r1,r2)) :
  Calls Try.prog 129 #[.agg #[.int .i64 b3,.int .i64 b5],.agg #[.int .i64 b4,.int .i64 b6]] w fun e w'=>e = .returned (.agg #[.int .i64 r1,.int .i64 r2]) ∧ Below w.heap.size w w':=by
 have m7:=Try.underlying23
 have HB:=A_ (Below.refl w.heap.size w)
 have H:((shares_compare.f k b3 b5 b4 b6).bind fun d4=>(if d4 ≤ 0 then (some (b3,b5)) else (some (b4,b6)))) = some (r1,r2):=h
 clear h
 replace H:=Option.bind_eq_some_iff.mp H
 obtain ⟨d4,l8,H⟩:=H
 replace H:(if d4 ≤ 0 then (some (b3,b5)) else (some (b4,b6))) = some (r1,r2):=H
 have A3:=A_ l8
 clear l8
 by_cases c4:d4 ≤ 0
 ·rw [if_pos c4] at H
  have l7:=decide_eq_true c4
  clear c4
  simp only [Option.some.injEq,Prod.mk.injEq] at H
  obtain ⟨rfl,rfl⟩:=H
  go_enter Try.func129,Try.ntmps129
  go_wp2_with (first | ((with_reducible refine gate_dst (N:=2) rfl ?_);refine bx 2 #[.int .i64 b3,.int .i64 b5] 23 ?_;intro d1 hg w5 hbox hb;have b0:=A_ hbox;have d5:=gw hg HB;have d8:=d5;replace HB:=bB HB hb;clear hb hbox hg) | ((with_reducible refine gate_dst (N:=3) rfl ?_);refine bx 3 #[.int .i64 b4,.int .i64 b6] 23 ?_;intro d2 hg w6 hbox hb;have b1:=A_ hbox;have d6:=gw hg HB;have d9:=d6;have b7:=nl hg b0;have b8:=ng hg b0;replace b0:=kB b0 hb;replace HB:=bB HB hb;clear hb hbox hg) | ((with_reducible refine gate_dst (N:=4) rfl ?_);refine bx 4 #[.int .i64 0,.int .i64 0] 23 ?_;intro d3 hg w7 hbox hb;have b2:=A_ hbox;have d7:=gw hg HB;have e0:=d7;have b9:=nl hg b0;have c0:=ng hg b0;have c1:=nl hg b1;have d0:=ng hg b1;replace b0:=kB b0 hb;replace b1:=kB b1 hb;replace HB:=bB HB hb;clear hb hbox hg;have m8:=b7.out;have m9:=b8.out;have n0:=b9.out;have n1:=c0.out;have e1:w7.cell? ⟨d1,0,none⟩ = some (.int .i64 b3):=cz b0 0;have e2:w7.cell? ⟨d1,1,none⟩ = some (.int .i64 b5):=cz b0 1;have e3:=blk_frozen b0.out 0;have e4:=blk_frozen b0.out 1;have l9:=c1.out;have m0:=d0.out;have e5:w7.cell? ⟨d2,0,none⟩ = some (.int .i64 b4):=cz b1 0;have e6:w7.cell? ⟨d2,1,none⟩ = some (.int .i64 b6):=cz b1 1;have e7:=blk_frozen b1.out 0;have e8:=blk_frozen b1.out 1) | ((with_reducible refine gate_callee (f:=85) rfl ?_);refine gL (some 7) Try.func85 #[.agg #[.int .i64 b3,.int .i64 b5],.agg #[.int .i64 b4,.int .i64 b6]] ?_;(with_reducible refine (shares_compare.calls k b3 b5 b4 b6 d4 _ A3.out).mono ?_);rintro e e9 ⟨rfl,hb⟩;refine ⟨_,rfl,?_⟩;replace b0:=kB b0 hb;replace b1:=kB b1 hb;replace b2:=kB b2 hb;replace HB:=bB HB hb;(try clear hb);have h0:e9.cell? ⟨d1,0,none⟩ = some (.int .i64 b3):=cz b0 0;have h1:e9.cell? ⟨d1,1,none⟩ = some (.int .i64 b5):=cz b0 1;have h2:=blk_frozen b0.out 0;have h3:=blk_frozen b0.out 1;have h4:e9.cell? ⟨d3,0,none⟩ = some (.int .i64 0):=cz b2 0;have h5:e9.cell? ⟨d3,1,none⟩ = some (.int .i64 0):=cz b2 1;have h6:=blk_frozen b2.out 0;have h7:=blk_frozen b2.out 1))
  refine bodyPost_ret (results_cell_row rfl _ _ d3 23 #[.int .i64 b3,.int .i64 b5] (0,0) _ rfl (by (with_reducible repeat (first | refine blk_drewN ?_ _ | refine blk_drew ?_ | refine blk_alloc ?_ _));refine blk_put (cs:=#[.int .i64 b3,.int .i64 0]) ?_ 1 _ rfl;(with_reducible repeat (first | refine blk_drewN ?_ _ | refine blk_drew ?_ | refine blk_alloc ?_ _));refine blk_put (cs:=#[.int .i64 0,.int .i64 0]) ?_ 0 _ rfl;(with_reducible repeat (first | refine blk_drewN ?_ _ | refine blk_drew ?_ | refine blk_alloc ?_ _));exact b2.out) Try.underlying23 rfl (by kernel_rfl)) rfl ?_
  exact ⟨rfl,bl HB⟩
 rw [if_neg c4] at H
 have l7:=decide_eq_false c4
 clear c4
 simp only [Option.some.injEq,Prod.mk.injEq] at H
 obtain ⟨rfl,rfl⟩:=H
 go_enter Try.func129,Try.ntmps129
 go_wp2_with (first | ((with_reducible refine gate_dst (N:=2) rfl ?_);refine bx 2 #[.int .i64 b3,.int .i64 b5] 23 ?_;intro d1 hg n2 hbox hb;have b0:=A_ hbox;have d5:=gw hg HB;have d8:=d5;replace HB:=bB HB hb;clear hb hbox hg) | ((with_reducible refine gate_dst (N:=3) rfl ?_);refine bx 3 #[.int .i64 b4,.int .i64 b6] 23 ?_;intro d2 hg n3 hbox hb;have b1:=A_ hbox;have d6:=gw hg HB;have d9:=d6;have b7:=nl hg b0;have b8:=ng hg b0;replace b0:=kB b0 hb;replace HB:=bB HB hb;clear hb hbox hg) | ((with_reducible refine gate_dst (N:=4) rfl ?_);refine bx 4 #[.int .i64 0,.int .i64 0] 23 ?_;intro d3 hg h8 hbox hb;have b2:=A_ hbox;have d7:=gw hg HB;have e0:=d7;have b9:=nl hg b0;have c0:=ng hg b0;have c1:=nl hg b1;have d0:=ng hg b1;replace b0:=kB b0 hb;replace b1:=kB b1 hb;replace HB:=bB HB hb;clear hb hbox hg;have m1:=b7.out;have m2:=b8.out;have m3:=b9.out;have m4:=c0.out;have h9:h8.cell? ⟨d1,0,none⟩ = some (.int .i64 b3):=cz b0 0;have i0:h8.cell? ⟨d1,1,none⟩ = some (.int .i64 b5):=cz b0 1;have i1:=blk_frozen b0.out 0;have i2:=blk_frozen b0.out 1;have m5:=c1.out;have m6:=d0.out;have i3:h8.cell? ⟨d2,0,none⟩ = some (.int .i64 b4):=cz b1 0;have i4:h8.cell? ⟨d2,1,none⟩ = some (.int .i64 b6):=cz b1 1;have i5:=blk_frozen b1.out 0;have i6:=blk_frozen b1.out 1) | ((with_reducible refine gate_callee (f:=85) rfl ?_);refine gL (some 7) Try.func85 #[.agg #[.int .i64 b3,.int .i64 b5],.agg #[.int .i64 b4,.int .i64 b6]] ?_;(with_reducible refine (shares_compare.calls k b3 b5 b4 b6 d4 _ A3.out).mono ?_);rintro e i7 ⟨rfl,hb⟩;refine ⟨_,rfl,?_⟩;replace b0:=kB b0 hb;replace b1:=kB b1 hb;replace b2:=kB b2 hb;replace HB:=bB HB hb;(try clear hb);have i8:i7.cell? ⟨d2,0,none⟩ = some (.int .i64 b4):=cz b1 0;have i9:i7.cell? ⟨d2,1,none⟩ = some (.int .i64 b6):=cz b1 1;have j5:=blk_frozen b1.out 0;have j7:=blk_frozen b1.out 1;have j8:i7.cell? ⟨d3,0,none⟩ = some (.int .i64 0):=cz b2 0;have j9:i7.cell? ⟨d3,1,none⟩ = some (.int .i64 0):=cz b2 1;have l5:=blk_frozen b2.out 0;have l6:=blk_frozen b2.out 1))
 refine bodyPost_ret (results_cell_row rfl _ _ d3 23 #[.int .i64 b4,.int .i64 b6] (0,0) _ rfl (by (with_reducible repeat (first | refine blk_drewN ?_ _ | refine blk_drew ?_ | refine blk_alloc ?_ _));refine blk_put (cs:=#[.int .i64 b4,.int .i64 0]) ?_ 1 _ rfl;(with_reducible repeat (first | refine blk_drewN ?_ _ | refine blk_drew ?_ | refine blk_alloc ?_ _));refine blk_put (cs:=#[.int .i64 0,.int .i64 0]) ?_ 0 _ rfl;(with_reducible repeat (first | refine blk_drewN ?_ _ | refine blk_drew ?_ | refine blk_alloc ?_ _));exact b2.out) Try.underlying23 rfl (by kernel_rfl)) rfl ?_
 exact ⟨rfl,bl HB⟩
end Go.Proofs.Ytjohcjfmlhihbaa.G
namespace Go.Proofs.Ytjohcjfmlhihbaa.G
open Go Go.RowKit Go.Proofs.YtjohcjfmlhihbaaW.PrintWords Go.Proofs.YtjohcjfmlhihbaaW.PrintLast
variable {P:Program} {ops:Array Oper} {Q:Exit → Act → World → Prop}
theorem goesV_ {oi:Oper} {N:Option Tmp} {a:Act} {w:World} {K:Act → World → Prop} {f:FuncId} {fn:Func} {as_:Array Operand} {ts:Array TypeId} (hf:P.funcs[f]? = some fn) (hname:(fn.name == "runtime.NumGoroutine") = false) (hb:fn.body.isSome = true) (args cap:Array Value) (t:Tmp)
    (hw:Region.wanted oi (yielded ops a.tmps) = true) (hN:oi.dst = N) (hop:oi.op = .call { callee:=.value (.tmp t),args:=as_,argTypes:=ts }) (hv:a.eval (.tmp t) = .func (.func f) #[] cap) (hargs:as_.map a.eval = args)
    (h:Calls P f (args ++ cap) w fun e w'=>∃ v,e = .returned v ∧ K (a.put N v) w'):if Region.wanted oi (yielded ops a.tmps) = true then Oper.wp P oi a w K Q else K (a.put N undef) w:=by
  refine call_ f (args ++ cap) hw hN ?_ h
  have he:=enters_ hf hname hb (args ++ cap) w
  have hargs':as_.map (fun o=>a.eval o) = args:=hargs
  unfold execOp
  simp [hop,resolve,Deferred.ofValue,invoke,hv,hargs,hargs',he]
end Go.Proofs.Ytjohcjfmlhihbaa.G
namespace Go.Proofs.Ytjohcjfmlhihbaa.G
open Go.RowKit Go.Proofs.YtjohcjfmlhihbaaW.PrintWords Go.Proofs.YtjohcjfmlhihbaaW.PrintLast Go.Proofs.YtjohcjfmlhihbaaW.PrintMore
set_option maxHeartbeats 8000000
set_option maxRecDepth 100000
attribute [local go_sem] cond_true cond_false fld23_0 fld23_1 fld45_0 fld45_1 fld109_0 fld109_1 fld94_0 fld94_1 max2_int min2_int max_two min_two max_three min_three max_four min_four   -- for this text's walks alone
def api_Frac_1.f (k:Nat) (a0:Int) (a1:Int) (a2:Int) (l3:List (S23)):Option (Int):=if 0 ≤ a0 then (if a0 < (l3.length:Int) then (if 0 ≤ a1 then (if a1 < (l3.length:Int) then ((shares_compare.f k ((rd_T23 l3 a0).f0) ((rd_T23 l3 a0).f1) ((rd_T23 l3 a1).f0) ((rd_T23 l3 a1).f1)).bind fun d3=>(some d3)) else (none)) else (none)) else (none)) else (none)
theorem api_Frac_1.mono:∀ a0 a1 a2 a3 k,LeO (api_Frac_1.f k a0 a1 a2 a3) (api_Frac_1.f (k + 1) a0 a1 a2 a3):=by
 intro a0 a1 a2 a3 k
 unfold api_Frac_1.f
 repeat' first
   | (with_reducible exact shares_compare.mono _ _ _ _ _)
   | (with_reducible exact LeO.refl _)
   | (with_reducible exact LeO.none _)
   | (with_reducible refine LeO.ite ?_ ?_)
   | (with_reducible refine LeO.bind ?_ (fun _=>?_))
   | exact shares_compare.mono _ _ _ _ _
   | exact LeO.none _
   | refine LeO.ite ?_ ?_
   | refine LeO.bind ?_ (fun _=>?_)
theorem api_Frac_1.calls (k:Nat) (a0:Int) (a1:Int) (a2:Int) (A3:Option Addr) (c3:Nat) (l3:List (S23)) (r:Int) (w:World) (d2 c1:Nat) (e6:w.heap[d2]? = some (.cells #[.func (.func 85) #[] #[]] 123 (0,0))) (e7:w.heap[c1]? = some (.cells #[.slice A3 l3.length c3] 35 (0,0))) (e3:d2 ≠ c1) (e8:Kd.C k23 w A3 l3.length l3) (e9:l3.length ≤ c3) (h:api_Frac_1.f k a0 a1 a2 l3 = some r) :
  Calls Try.prog 114 #[.int .i64 a0,.int .i64 a1,.pointer (some ⟨d2,0,none⟩),.pointer (some ⟨c1,0,none⟩)] w fun e w'=>e = .returned (.int .i64 r) ∧ Below w.heap.size w w':=by
 have h5:=Try.underlying23
 have b0:=A_ e6
 have b1:=A_ e7
 have d0:=A_ e3
 have d1:=A_ e3.symm
 clear e6 e7 e3
 have h0:=A_ e8
 have i1:=A_ e9
 clear e8 e9
 have HB:=A_ (Below.refl w.heap.size w)
 have H:(if 0 ≤ a0 then (if a0 < (l3.length:Int) then (if 0 ≤ a1 then (if a1 < (l3.length:Int) then ((shares_compare.f k ((rd_T23 l3 a0).f0) ((rd_T23 l3 a0).f1) ((rd_T23 l3 a1).f0) ((rd_T23 l3 a1).f1)).bind fun d3=>(some d3)) else (none)) else (none)) else (none)) else (none)) = some r:=h
 clear h
 by_cases c5:0 ≤ a0
 case neg =>
  rw [if_neg c5] at H
  exact absurd H (by simp)
 rw [if_pos c5] at H
 have h6:decide (0 ≤ a0) = true:=decide_eq_true c5
 clear c5
 by_cases c6:a0 < (l3.length:Int)
 case neg =>
  rw [if_neg c6] at H
  exact absurd H (by simp)
 rw [if_pos c6] at H
 have h7:decide (a0 < (l3.length:Int)) = true:=decide_eq_true c6
 clear c6
 by_cases c7:0 ≤ a1
 case neg =>
  rw [if_neg c7] at H
  exact absurd H (by simp)
 rw [if_pos c7] at H
 have h8:decide (0 ≤ a1) = true:=decide_eq_true c7
 clear c7
 by_cases c8:a1 < (l3.length:Int)
 case neg =>
  rw [if_neg c8] at H
  exact absurd H (by simp)
 rw [if_pos c8] at H
 have h9:decide (a1 < (l3.length:Int)) = true:=decide_eq_true c8
 clear c8
 replace H:=Option.bind_eq_some_iff.mp H
 obtain ⟨d3,h1,H⟩:=H
 replace H:(some d3) = some r:=H
 have A9:=A_ h1
 clear h1
 obtain rfl:=Option.some.inj H
 go_enter Try.func114,Try.ntmps114
 try go_wp2_with (first | ((with_reducible refine gate_dst (N:=541) rfl ?_);refine box_event ?hg (N:=541) ?hd (cs:=#[.slice A3 l3.length c3]) (t:=35) ?hr ?_;(case hd=>rfl);(case hg=>rfl);(case hr=>first | (go_simp;done) | (go_simp;rfl));intro c1 hg i0 hbox hb;have b1:=A_ hbox;have d8:=gw hg HB;have d9:=d8;have d0:=nl hg b0;have d1:=ng hg b0;replace b0:=kB b0 hb;replace HB:=bB HB hb;clear hb hbox hg;have h2:=d1.out;have h3:=d0.out;have e1:i0.cell? ⟨c1,0,none⟩ = some (.slice A3 l3.length c3):=cz b1 0;have e2:=blk_frozen b1.out 0))
 replace b0:=A_ (blk_drew b0.out)
 replace b1:=A_ (blk_drew b1.out)
 replace HB:=A_ (below_drew1 HB.out)
 have d4:0 ≤ (a0:Int):=of_decide_eq_true (by first | (with_reducible assumption) | assumption)
 have d5:a0 < (l3.length:Int):=of_decide_eq_true (by first | (with_reducible assumption) | assumption)
 obtain ⟨b6,e4,b2,b3⟩:=at_T23 h0.out a0 d4 d5
 have b7:=b3
 have b8:=b2
 cases e4
 replace b2:=(HB.out.cell (World.block_lt_of_cell? w _ b2)).trans b2
 replace b3:=(HB.out.cell (World.block_lt_of_cell? w _ b3)).trans b3
 replace d4:=eq_true d4
 replace d5:=eq_true d5
 have d6:0 ≤ (a1:Int):=of_decide_eq_true (by first | (with_reducible assumption) | assumption)
 have d7:a1 < (l3.length:Int):=of_decide_eq_true (by first | (with_reducible assumption) | assumption)
 obtain ⟨e0,e5,b4,b5⟩:=at_T23 h0.out a1 d6 d7
 have b9:=b5
 have c0:=b4
 obtain rfl:b6 = e0:=(by injection e5)
 replace b4:=(HB.out.cell (World.block_lt_of_cell? w _ b4)).trans b4
 replace b5:=(HB.out.cell (World.block_lt_of_cell? w _ b5)).trans b5
 replace d6:=eq_true d6
 replace d7:=eq_true d7
 refine start_ (n:=11) (S:=fun w'=>w'.cell? ⟨d2,0,none⟩ = some (.func (.func 85) #[] #[]) ∧ w'.cell? ⟨c1,0,none⟩ = some (.slice (some b6) l3.length c3) ∧ w'.cell? (b6.add ((a0).toNat * 2)) = some (.int .i64 ((rd_T23 l3 a0).f0)) ∧ w'.cell? ⟨(b6.add ((a0).toNat * 2)).block,(b6.add ((a0).toNat * 2)).off + 1,none⟩ = some (.int .i64 ((rd_T23 l3 a0).f1)) ∧ w'.cell? (b6.add ((a1).toNat * 2)) = some (.int .i64 ((rd_T23 l3 a1).f0)) ∧ w'.cell? ⟨(b6.add ((a1).toNat * 2)).block,(b6.add ((a1).toNat * 2)).off + 1,none⟩ = some (.int .i64 ((rd_T23 l3 a1).f1))) (ds:=[]) (ba 11 0) (by kernel_rfl) rfl rfl ⟨cz b0 0,cz b1 0,((HB.out.cell (World.block_lt_of_cell? w _ b8)).trans b8),((HB.out.cell (World.block_lt_of_cell? w _ b7)).trans b7),((HB.out.cell (World.block_lt_of_cell? w _ c0)).trans c0),((HB.out.cell (World.block_lt_of_cell? w _ b9)).trans b9)⟩ (fun hHeld=>?_)
 generalize w.drew = i2 at b0 b1 HB b2 b3 b4 b5 hHeld ⊢
 refine pr 2 9 4 ?_
 refine pr 6 13 68 ?_
 refine tr 0 7 69 hHeld ?_
 refine tr 1 8 71 hHeld ?_
 refine pr 3 10 79 ?_
 refine tr 4 11 95 hHeld ?_
 refine tr 5 12 127 hHeld ?_
 refine pr 7 14 255 ?_
 refine tr 8 15 511 hHeld ?_
 refine os 9 16 1023 (fun K hK=>?_)
 refine goesV_ Try.func85 (by kernel_rfl) rfl #[.agg #[.int .i64 ((rd_T23 l3 a0).f0),.int .i64 ((rd_T23 l3 a0).f1)],.agg #[.int .i64 ((rd_T23 l3 a1).f0),.int .i64 ((rd_T23 l3 a1).f1)]] #[] 7 (by rfl) rfl rfl rfl (by (try simp only [List.map_toArray,List.map_cons,List.map_nil]);first | done | rfl | (simp only [List.length_drop,List.length_take];rfl)) ?_
 rw [Array.append_empty]
 with_reducible refine (shares_compare.calls k ((rd_T23 l3 a0).f0) ((rd_T23 l3 a0).f1) ((rd_T23 l3 a1).f0) ((rd_T23 l3 a1).f1) d3 _ A9.out).mono ?_
 rintro e i3 ⟨rfl,hb⟩
 refine ⟨_,rfl,?_⟩
 replace b0:=kB b0 hb
 replace b1:=kB b1 hb
 replace HB:=bB HB hb
 (try clear hb)
 refine hK.out _ _ ⟨cz b0 0,cz b1 0,((HB.out.cell (World.block_lt_of_cell? w _ b8)).trans b8),((HB.out.cell (World.block_lt_of_cell? w _ b7)).trans b7),((HB.out.cell (World.block_lt_of_cell? w _ c0)).trans c0),((HB.out.cell (World.block_lt_of_cell? w _ b9)).trans b9)⟩ (fun hHeld=>?_)
 clear hK K
 refine nq 16 ?_
 refine pr 10 6 2047 ?_
 refine done_ (by kernel_rfl) ?_
 try go_wp2
 go_ret
 exact ⟨by first | rfl | (simp [errW_none,errW_some] <;> rfl) | (simp [*,errW_none,errW_some] <;> rfl),by repeat (first | (with_reducible first | exact HB.out | apply below_alloc | apply pw_below_drewN | apply below_drew1 | refine below_set ?_ h4.out | refine below_set ?_ d9.out) | exact HB.out)⟩
end Go.Proofs.Ytjohcjfmlhihbaa.G
namespace Go.Proofs.Ytjohcjfmlhihbaa.G
open Go.RowKit Go.Proofs.YtjohcjfmlhihbaaW.PrintWords Go.Proofs.YtjohcjfmlhihbaaW.PrintLast Go.Proofs.YtjohcjfmlhihbaaW.PrintMore
set_option maxHeartbeats 8000000
set_option maxRecDepth 100000
attribute [local go_sem] cond_true cond_false fld23_0 fld23_1 fld45_0 fld45_1 fld109_0 fld109_1 fld94_0 fld94_1 max2_int min2_int max_two min_two max_three min_three max_four min_four
mutual
def slices_insertionSortCmpFunc_int.l0:Nat → List Int → Int → Int → List (S23) → Int → Option (List Int)
 | 0,_,_,_,_,_=>none
 | k + 1,x0,x1,x2,x3,x8=>if x8 < x2 then (slices_insertionSortCmpFunc_int.l1 k x0 x1 x2 x3 x8 x8) else (some x0)
def slices_insertionSortCmpFunc_int.l1:Nat → List Int → Int → Int → List (S23) → Int → Int → Option (List Int)
 | 0,_,_,_,_,_,_=>none
 | k + 1,x0,x1,x2,x3,x8,x9=>if x9 > x1 then (if 0 ≤ x9 then (if x9 < (x0.length:Int) then (if 0 ≤ (wrap64 (x9 - 1)) then (if (wrap64 (x9 - 1)) < (x0.length:Int) then ((api_Frac_1.f k (rd x0 x9) (rd x0 (wrap64 (x9 - 1))) 0 x3).bind fun b9=>(if b9 < 0 then (slices_insertionSortCmpFunc_int.l1 k ((x0.set (x9:Int).toNat (rd x0 (wrap64 (x9 - 1)))).set ((wrap64 (x9 - 1)):Int).toNat (rd x0 x9)) x1 x2 x3 x8 (wrap64 (x9 - 1))) else (slices_insertionSortCmpFunc_int.l0 k x0 x1 x2 x3 (wrap64 (x8 + 1))))) else (none)) else (none)) else (none)) else (none)) else (slices_insertionSortCmpFunc_int.l0 k x0 x1 x2 x3 (wrap64 (x8 + 1)))
end
def slices_insertionSortCmpFunc_int.f (k:Nat) (l0:List Int) (a1:Int) (a2:Int) (l3:List (S23)):Option (List Int):=slices_insertionSortCmpFunc_int.l0 k l0 a1 a2 l3 (wrap64 (a1 + 1))
theorem slices_insertionSortCmpFunc_int.mono_l:∀ k,(∀ y0 y1 y2 y3 y4,LeO (slices_insertionSortCmpFunc_int.l0 k y0 y1 y2 y3 y4) (slices_insertionSortCmpFunc_int.l0 (k + 1) y0 y1 y2 y3 y4)) ∧ (∀ y0 y1 y2 y3 y4 y5,LeO (slices_insertionSortCmpFunc_int.l1 k y0 y1 y2 y3 y4 y5) (slices_insertionSortCmpFunc_int.l1 (k + 1) y0 y1 y2 y3 y4 y5))
 | 0=>⟨fun _ _ _ _ _ r h=>by simp [slices_insertionSortCmpFunc_int.l0] at h,fun _ _ _ _ _ _ r h=>by simp [slices_insertionSortCmpFunc_int.l1] at h⟩
 | k + 1=>by
  obtain ⟨l5,l6⟩:=slices_insertionSortCmpFunc_int.mono_l k
  refine ⟨?_,?_⟩
  ·intro y0 y1 y2 y3 y4
   unfold slices_insertionSortCmpFunc_int.l0
   repeat' first
   | (with_reducible first | exact l5 _ _ _ _ _ | exact l6 _ _ _ _ _ _ | exact api_Frac_1.mono _ _ _ _ _ | exact LeO.refl _ | exact LeO.none _ | refine LeO.ite ?_ ?_ | refine LeO.bind ?_ (fun _=>?_))
   | exact LeO.none _ | refine LeO.ite ?_ ?_ | refine LeO.bind ?_ (fun _=>?_)
  intro y0 y1 y2 y3 y4 y5
  unfold slices_insertionSortCmpFunc_int.l1
  repeat' first
  | (with_reducible first | exact l5 _ _ _ _ _ | exact l6 _ _ _ _ _ _ | exact api_Frac_1.mono _ _ _ _ _ | exact LeO.refl _ | exact LeO.none _ | refine LeO.ite ?_ ?_ | refine LeO.bind ?_ (fun _=>?_))
  | exact LeO.none _ | refine LeO.ite ?_ ?_ | refine LeO.bind ?_ (fun _=>?_)
theorem slices_insertionSortCmpFunc_int.mono:∀ a0 a1 a2 a3 k,LeO (slices_insertionSortCmpFunc_int.f k a0 a1 a2 a3) (slices_insertionSortCmpFunc_int.f (k + 1) a0 a1 a2 a3):=by
 intro a0 a1 a2 a3 k
 obtain ⟨l5,l6⟩:=slices_insertionSortCmpFunc_int.mono_l k
 unfold slices_insertionSortCmpFunc_int.f
 repeat' first
   | (with_reducible first | exact l5 _ _ _ _ _ | exact l6 _ _ _ _ _ _ | exact api_Frac_1.mono _ _ _ _ _ | exact LeO.refl _ | exact LeO.none _ | refine LeO.ite ?_ ?_ | refine LeO.bind ?_ (fun _=>?_))
   | exact LeO.none _ | refine LeO.ite ?_ ?_ | refine LeO.bind ?_ (fun _=>?_)
theorem slices_insertionSortCmpFunc_int.calls (k:Nat) (d5:Nat → Prop) (b8:Value) (l0:List Int) (a1:Int) (a2:Int) (A3:Option Addr) (c3:Nat) (l3:List (S23)) (r:List Int) (w0 w:World) (gbF gbL:Nat) (n8:∀ W_,Kept w W_ (fun k_=>d5 k_) → W_.heap[gbF]? = some (.cells #[.func (.func 85) #[] #[]] 123 (0,0))) (n9:∀ W_,Kept w W_ (fun k_=>d5 k_) → W_.heap[gbL]? = some (.cells #[.slice A3 l3.length c3] 35 (0,0))) (o0:gbF ≠ gbL) (hB:Below w0.heap.size w0 w) (o9:Kd.R (Kd.int .i64) 3 w w0.heap.size d5 b8 l0) (o1:∀ W_,Kept w W_ (fun k_=>d5 k_) → Kd.C k23 W_ A3 l3.length l3) (o2:l3.length ≤ c3) (h:slices_insertionSortCmpFunc_int.f k l0 a1 a2 l3 = some r) :
  Calls Try.prog 132 #[b8,.int .i64 a1,.int .i64 a2,.func (.func 114) #[] #[.pointer (some ⟨gbF,0,none⟩),.pointer (some ⟨gbL,0,none⟩)]] w fun e w'=>e = .returned (.tuple #[]) ∧ Kd.R (Kd.int .i64) 3 w' w0.heap.size (fun k_=>(d5 k_ ∨ w.heap.size ≤ k_)) b8 r ∧ Below w0.heap.size w0 w' ∧ Kept w w' (fun k_=>d5 k_):=by
 have p0:=A_ (show Kd.R (Kd.int .i64) 3 w w0.heap.size (fun k_=>(d5 k_ ∨ w.heap.size ≤ k_)) b8 l0 from Kd.R_mono o9 (fun k_ hk=>(.inl hk)))
 have BKF:=A_ n8
 have BKL:=A_ n9
 have NBFL:=A_ o0
 clear n8 n9 o0
 have o3:=A_ o1
 have o4:=A_ o2
 clear o1 o2
 have HK:=A_ (Kept.refl w (fun k_=>d5 k_))
 have p9:=A_ hB.size
 have HB:=A_ hB
 clear hB
 have H:(slices_insertionSortCmpFunc_int.l0 k l0 a1 a2 l3 (wrap64 (a1 + 1))) = some r:=h
 clear h
 have H':=A_ H
 clear H
 go_enter Try.func132,Try.ntmps132
 go_wp2
 go_loopg [8] k (fun kq v8 w'=>∃ (e8:List Int) (b7:Int),v8 = .int .i64 b7 ∧ Aside0 (slices_insertionSortCmpFunc_int.l0 kq e8 a1 a2 l3 b7 = some r) ∧ Aside0 (kq ≤ k) ∧ Aside0 (Kd.R (Kd.int .i64) 3 w' w0.heap.size (fun k_=>(d5 k_ ∨ w.heap.size ≤ k_)) b8 e8) ∧ Aside0 (Kept w w' (fun k_=>d5 k_)) ∧ Aside0 (Below w0.heap.size w0 w'))
 case atStart=>exact ⟨(l0),(wrap64 (a1 + 1)),rfl,H',⟨Nat.le_refl _⟩,⟨by exact p0.out⟩,⟨by repeat (first | (with_reducible first | exact HK.out | apply Kept.alloc | apply Kept.drewN | apply Kept.drew) | exact HK.out)⟩,⟨by repeat (first | (with_reducible first | exact HB.out | apply below_alloc | apply pw_below_drewN | apply below_drew1) | exact HB.out)⟩⟩
 case round =>
  clear H'
  obtain ⟨e8,b7,rfl,HA,h8,b2,HK,HB⟩:=hrel
  cases gk with
  | zero=>exact absurd HA.out (by simp [slices_insertionSortCmpFunc_int.l0])
  | succ k1 =>
   have H:=HA.out
   clear HA
   simp only [slices_insertionSortCmpFunc_int.l0] at H
   by_cases c5:b7 < a2
   case neg =>
    rw [if_neg c5] at H
    have l8:=decide_eq_false c5
    clear c5
    obtain rfl:=Option.some.inj H
    go_wp2
    first | go_end0 | ((try simp only [Exit.inBlock,Exit.then]);refine bodyPost_ret (results_none rfl _ _ _) rfl ?_)
    exact ⟨rfl,by exact b2.out,by repeat (first | (with_reducible first | exact HB.out | apply below_alloc | apply pw_below_drewN | apply below_drew1) | exact HB.out),by repeat (first | (with_reducible first | exact HK.out | apply Kept.alloc | apply Kept.drewN | apply Kept.drew) | exact HK.out)⟩
   rw [if_pos c5] at H
   have l8:=decide_eq_true c5
   clear c5
   have H':=A_ H
   clear H
   go_wp2
   go_loopg [9] k1 (fun kq v9 w'=>∃ (b0:List Int) (b1:Int),v9 = .int .i64 b1 ∧ Aside0 (slices_insertionSortCmpFunc_int.l1 kq b0 a1 a2 l3 b7 b1 = some r) ∧ Aside0 (kq ≤ k1) ∧ Aside0 (Kd.R (Kd.int .i64) 3 w' w0.heap.size (fun k_=>(d5 k_ ∨ w.heap.size ≤ k_)) b8 b0) ∧ Aside0 (Kept w w' (fun k_=>d5 k_)) ∧ Aside0 (Below w0.heap.size w0 w'))
   case atStart=>exact ⟨(e8),(b7),rfl,H',⟨Nat.le_refl _⟩,⟨by exact b2.out⟩,⟨by repeat (first | (with_reducible first | exact HK.out | apply Kept.alloc | apply Kept.drewN | apply Kept.drew) | exact HK.out)⟩,⟨by repeat (first | (with_reducible first | exact HB.out | apply below_alloc | apply pw_below_drewN | apply below_drew1) | exact HB.out)⟩⟩
   case round =>
    clear H'
    obtain ⟨b0,b1,rfl,HA,h9,b2,HK,HB⟩:=hrel
    cases gk with
    | zero=>exact absurd HA.out (by simp [slices_insertionSortCmpFunc_int.l1])
    | succ k2 =>
     have H:=HA.out
     clear HA
     simp only [slices_insertionSortCmpFunc_int.l1] at H
     by_cases c6:b1 > a1
     case neg =>
      rw [if_neg c6] at H
      have l9:=decide_eq_false c6
      clear c6
      have H':=A_ H
      clear H
      try go_wp2
      replace b2:=rD b2
      replace HK:=A_ (Kept.drew HK.out)
      replace HB:=bD HB
      refine start_ (n:=17) (S:=fun w'=>True) (ds:=[]) (ba 17 0) (by kernel_rfl) rfl rfl trivial (fun hHeld=>?_)
      generalize wr.drew = q0 at b2 HK HB hHeld ⊢
      refine pr 0 18 1 ?_
      refine pr 1 19 3 ?_
      refine pr 2 20 7 ?_
      refine pr 3 21 15 ?_
      refine pv 4 22 31 ?_
      refine pv 5 23 63 ?_
      refine pv 6 24 127 ?_
      refine pv 7 25 255 ?_
      refine pv 8 26 511 ?_
      refine pv 9 27 1023 ?_
      refine pv 10 28 2047 ?_
      refine pv 11 29 4095 ?_
      refine pv 12 30 8191 ?_
      refine pv 13 31 16383 ?_
      refine pv 14 32 32767 ?_
      refine pv 15 33 65535 ?_
      refine pr 16 34 131071 ?_
      refine done_ (by kernel_rfl) ?_
      try go_wp2
      go_roundg k2
      case measure=>have:=h8.out;have:=h9.out;omega
      case rel=>exact ⟨(b0),(wrap64 (b7 + 1)),rfl,H',⟨by have:=h8.out;have:=h9.out;omega⟩,⟨by exact b2.out⟩,⟨by repeat (first | (with_reducible first | exact HK.out | apply Kept.alloc | apply Kept.drewN | apply Kept.drew) | exact HK.out)⟩,⟨by repeat (first | (with_reducible first | exact HB.out | apply below_alloc | apply pw_below_drewN | apply below_drew1) | exact HB.out)⟩⟩
     rw [if_pos c6] at H
     have l9:=decide_eq_true c6
     clear c6
     replace H:=gd H
     obtain ⟨c7,H⟩:=H
     have p1:=decide_eq_true c7
     clear c7
     replace H:=gd H
     obtain ⟨c8,H⟩:=H
     have p2:=decide_eq_true c8
     clear c8
     obtain ⟨b5,d9⟩:∃ j_:Int,(wrap64 (b1 - 1)) = j_:=⟨_,rfl⟩
     replace H:(if 0 ≤ (b5) then (if (b5) < (b0.length:Int) then ((api_Frac_1.f k2 (rd b0 b1) (rd b0 (b5)) 0 l3).bind fun b9=>(if b9 < 0 then (slices_insertionSortCmpFunc_int.l1 k2 ((b0.set (b1:Int).toNat (rd b0 (b5))).set ((b5):Int).toNat (rd b0 b1)) a1 a2 l3 b7 b5) else (slices_insertionSortCmpFunc_int.l0 k2 b0 a1 a2 l3 (wrap64 (b7 + 1))))) else (none)) else (none)) = some r:=by first | (rw [d9] at H;exact H) | (simp only [d9] at H ⊢;exact H)
     have hji9w:(IntKind.i64.wrap (b1 - 1)) = b5:=(i64_w _).trans d9
     replace H:=gd H
     obtain ⟨c10,H⟩:=H
     have o5:=decide_eq_true c10
     clear c10
     replace H:=gd H
     obtain ⟨o6,H⟩:=H
     have o7:=decide_eq_true o6
     clear o6
     replace H:=Option.bind_eq_some_iff.mp H
     obtain ⟨b9,i1,H⟩:=H
     replace H:(if b9 < 0 then (slices_insertionSortCmpFunc_int.l1 k2 ((b0.set (b1:Int).toNat (rd b0 (b5))).set ((b5):Int).toNat (rd b0 b1)) a1 a2 l3 b7 b5) else (slices_insertionSortCmpFunc_int.l0 k2 b0 a1 a2 l3 (wrap64 (b7 + 1)))) = some r:=H
     have o8:=A_ i1
     clear i1
     by_cases i0:b9 < 0
     case neg =>
      rw [if_neg i0] at H
      have i2:=decide_eq_false i0
      clear i0
      have H':=A_ H
      clear H
      try go_wp2
      replace b2:=rD b2
      replace HK:=A_ (Kept.drew HK.out)
      replace HB:=bD HB
      obtain ⟨p3,p4,i3⟩:=Kd.R_slice b2.out
      (first | subst i3 | (injection i3 with i4 m0 i5;have m1:=i4.symm;have m2:=i5.symm;clear i4 m0 i5;subst m1;subst m2))
      have c0:0 ≤ (b1:Int):=of_decide_eq_true (by assumption)
      have c1:b1 < (b0.length:Int):=of_decide_eq_true (by assumption)
      obtain ⟨b6,e0,b3⟩:=Kd.at_int (Kd.R_reads' b2.out).2.2 b1 c0 c1
      cases e0
      replace c0:=eq_true c0
      replace c1:=eq_true c1
      have d0:0 ≤ ((b5):Int):=of_decide_eq_true (by assumption)
      have d1:(b5) < (b0.length:Int):=of_decide_eq_true (by assumption)
      obtain ⟨d6,e1,b4⟩:=Kd.at_int (Kd.R_reads' b2.out).2.2 (b5) d0 d1
      obtain rfl:b6 = d6:=(by injection e1)
      replace d0:=eq_true d0
      replace d1:=eq_true d1
      refine start_ (n:=17) (S:=fun w'=>w'.cell? (b6.add (b1).toNat) = some (.int .i64 (rd b0 b1)) ∧ w'.cell? (b6.add ((b5)).toNat) = some (.int .i64 (rd b0 (b5)))) (ds:=[]) (ba 17 0) (by kernel_rfl) rfl rfl ⟨b3,b4⟩ (fun hHeld=>?_)
      generalize wr.drew = q1 at b2 HK HB b3 b4 hHeld ⊢
      refine pr 0 18 1 ?_
      refine pr 1 19 3 ?_
      refine pr 2 20 7 ?_
      refine pr 3 21 15 ?_
      refine pr 4 22 31 ?_
      refine pr 5 23 63 ?_
      refine pr 6 24 127 ?_
      refine pr 7 25 255 ?_
      refine pr 9 27 767 ?_
      refine pr 10 28 1791 ?_
      refine pr 11 29 3839 ?_
      refine pr 12 30 7935 ?_
      refine tr 8 26 8191 hHeld ?_
      refine tr 13 31 16383 hHeld ?_
      refine os 14 32 32767 (fun K hK=>?_)
      refine goesV_ Try.func114 (by kernel_rfl) rfl #[.int .i64 (rd b0 b1),.int .i64 (rd b0 (b5))] #[.pointer (some ⟨gbF,0,none⟩),.pointer (some ⟨gbL,0,none⟩)] 22 (by rfl) rfl rfl rfl (by (try simp only [List.map_toArray,List.map_cons,List.map_nil]);first | done | (simp only [d9];rfl) | rfl | (simp only [List.length_drop,List.length_take];rfl)) ?_
      simp only [List.append_toArray,List.cons_append,List.nil_append]
      with_reducible refine (api_Frac_1.calls k2 (rd b0 b1) (rd b0 (b5)) 0 _ _ l3 b9 _ gbF gbL (BKF.out _ HK.out) (BKL.out _ HK.out) NBFL.out ?side1 ?side2 o8.out).mono ?_
      (case side1=>exact Kd.C_kept_now o3.out HK.out)
      (case side2=>exact o4.out)
      rintro e q2 ⟨rfl,hb⟩
      have m3:=(hb.cell (World.block_lt_of_cell? _ _ (hHeld.1))).trans (hHeld.1)
      have m4:=(hb.cell (World.block_lt_of_cell? _ _ (hHeld.2))).trans (hHeld.2)
      refine ⟨_,rfl,?_⟩
      replace b2:=rB b2 hb
      replace HK:=A_ (Kept.below (S:=(fun k_=>d5 k_)) HK.out hb)
      replace HB:=bB HB hb
      (try clear hb)
      refine hz hK (fun hHeld=>?_)
      clear hK K
      refine nq 32 ?_
      refine pr 15 33 65535 ?_
      refine pr 16 34 131071 ?_
      refine done_ (by kernel_rfl) ?_
      try go_wp2
      go_roundg k2
      case measure=>have:=h8.out;have:=h9.out;omega
      case rel=>exact ⟨(b0),(wrap64 (b7 + 1)),rfl,H',⟨by have:=h8.out;have:=h9.out;omega⟩,⟨by exact b2.out⟩,⟨by repeat (first | (with_reducible first | exact HK.out | apply Kept.alloc | apply Kept.drewN | apply Kept.drew) | exact HK.out)⟩,⟨by repeat (first | (with_reducible first | exact HB.out | apply below_alloc | apply pw_below_drewN | apply below_drew1) | exact HB.out)⟩⟩
     rw [if_pos i0] at H
     have i2:=decide_eq_true i0
     clear i0
     obtain ⟨e2,d7⟩:∃ y_:List Int,y_ = (b0.set (b1:Int).toNat (rd b0 (b5))):=⟨_,rfl⟩
     replace H:(slices_insertionSortCmpFunc_int.l1 k2 (e2.set ((b5):Int).toNat (rd b0 b1)) a1 a2 l3 b7 b5) = some r:=by rw [d7];exact H
     have h0:=A_ d7
     clear d7
     obtain ⟨e9,d8⟩:∃ y_:List Int,y_ = (e2.set ((b5):Int).toNat (rd b0 b1)):=⟨_,rfl⟩
     replace H:(slices_insertionSortCmpFunc_int.l1 k2 e9 a1 a2 l3 b7 b5) = some r:=by rw [d8];exact H
     have h1:=A_ d8
     clear d8
     have H':=A_ H
     clear H
     try go_wp2
     replace b2:=rD b2
     replace HK:=A_ (Kept.drew HK.out)
     replace HB:=bD HB
     obtain ⟨p5,m5,i6⟩:=Kd.R_slice b2.out
     (first | subst i6 | (injection i6 with i4 m0 i5;have m1:=i4.symm;have m2:=i5.symm;clear i4 m0 i5;subst m1;subst m2))
     have c0:0 ≤ (b1:Int):=of_decide_eq_true (by assumption)
     have c1:b1 < (b0.length:Int):=of_decide_eq_true (by assumption)
     obtain ⟨b6,e0,b3⟩:=Kd.at_int (Kd.R_reads' b2.out).2.2 b1 c0 c1
     cases e0
     replace c0:=eq_true c0
     replace c1:=eq_true c1
     have d0:0 ≤ ((b5):Int):=of_decide_eq_true (by assumption)
     have d1:(b5) < (b0.length:Int):=of_decide_eq_true (by assumption)
     obtain ⟨d6,e1,b4⟩:=Kd.at_int (Kd.R_reads' b2.out).2.2 (b5) d0 d1
     obtain rfl:b6 = d6:=(by injection e1)
     replace d0:=eq_true d0
     replace d1:=eq_true d1
     refine start_ (n:=17) (S:=fun w'=>w'.cell? (b6.add (b1).toNat) = some (.int .i64 (rd b0 b1)) ∧ w'.cell? (b6.add ((b5)).toNat) = some (.int .i64 (rd b0 (b5)))) (ds:=[]) (ba 17 0) (by kernel_rfl) rfl rfl ⟨b3,b4⟩ (fun hHeld=>?_)
     generalize wr.drew = q3 at b2 HK HB b3 b4 hHeld ⊢
     refine pr 0 18 1 ?_
     refine pr 1 19 3 ?_
     refine pr 2 20 7 ?_
     refine pr 3 21 15 ?_
     refine pr 4 22 31 ?_
     refine pr 5 23 63 ?_
     refine pr 6 24 127 ?_
     refine pr 7 25 255 ?_
     refine pr 9 27 767 ?_
     refine pr 10 28 1791 ?_
     refine pr 11 29 3839 ?_
     refine pr 12 30 7935 ?_
     refine tr 8 26 8191 hHeld ?_
     refine tr 13 31 16383 hHeld ?_
     refine os 14 32 32767 (fun K hK=>?_)
     refine goesV_ Try.func114 (by kernel_rfl) rfl #[.int .i64 (rd b0 b1),.int .i64 (rd b0 (b5))] #[.pointer (some ⟨gbF,0,none⟩),.pointer (some ⟨gbL,0,none⟩)] 22 (by rfl) rfl rfl rfl (by (try simp only [List.map_toArray,List.map_cons,List.map_nil]);first | done | (simp only [d9];rfl) | rfl | (simp only [List.length_drop,List.length_take];rfl)) ?_
     simp only [List.append_toArray,List.cons_append,List.nil_append]
     with_reducible refine (api_Frac_1.calls k2 (rd b0 b1) (rd b0 (b5)) 0 _ _ l3 b9 _ gbF gbL (BKF.out _ HK.out) (BKL.out _ HK.out) NBFL.out ?side1 ?side2 o8.out).mono ?_
     (case side1=>exact Kd.C_kept_now o3.out HK.out)
     (case side2=>exact o4.out)
     rintro e p6 ⟨rfl,hb⟩
     have m3:=(hb.cell (World.block_lt_of_cell? _ _ (hHeld.1))).trans (hHeld.1)
     have m4:=(hb.cell (World.block_lt_of_cell? _ _ (hHeld.2))).trans (hHeld.2)
     refine ⟨_,rfl,?_⟩
     replace b2:=rB b2 hb
     replace HK:=A_ (Kept.below (S:=(fun k_=>d5 k_)) HK.out hb)
     replace HB:=bB HB hb
     (try clear hb)
     refine hz hK (fun hHeld=>?_)
     clear hK K
     refine nq 32 ?_
     refine pr 15 33 65535 ?_
     refine pr 16 34 131071 ?_
     refine done_ (by kernel_rfl) ?_
     try go_wp2
     replace b2:=rD b2
     replace HK:=A_ (Kept.drew HK.out)
     replace HB:=bD HB
     have e3:0 ≤ ((b5):Int):=of_decide_eq_true (by assumption)
     have e4:(b5) < (b0.length:Int):=of_decide_eq_true (by assumption)
     obtain ⟨h2,i7,d2⟩:=Kd.at_int (Kd.R_reads' b2.out).2.2 (b5) e3 e4
     obtain rfl:b6 = h2:=(by injection i7)
     replace e3:=eq_true e3
     replace e4:=eq_true e4
     have e5:0 ≤ (b1:Int):=of_decide_eq_true (by assumption)
     have e6:b1 < (b0.length:Int):=of_decide_eq_true (by assumption)
     obtain ⟨h3,i8,d3⟩:=Kd.at_int (Kd.R_reads' b2.out).2.2 b1 e5 e6
     obtain rfl:b6 = h3:=(by injection i8)
     replace e5:=eq_true e5
     replace e6:=eq_true e6
     have m6:0 ≤ (b1:Int):=of_decide_eq_true (by assumption)
     have m7:(b1:Int) < ((b0.length:Int):Int):=of_decide_eq_true (by assumption)
     obtain ⟨d4,p7,i9,j5,m8,p8,j7⟩:=Kd.R_form b2.out (by omega)
     (first | cases i9 | (injection i9 with ea_ en_ ec_;(first | subst ea_ | (injection ea_ with ea_;subst ea_));subst ec_;clear en_))
     have j8:=A_ j5
     have m9:=A_ j7
     clear j5 m8 j7
     have e7:=A_ (show (d5 d4 ∨ w.heap.size ≤ d4) from (b2.out.1 _ rfl))
     (first | simp only [add_plain] at b3 | skip)
     (first | simp only [add_plain] at b4 | skip)
     (first | simp only [add_plain] at d2 | skip)
     (first | simp only [add_plain] at d3 | skip)
     obtain ⟨h4,h5⟩:=Kd.R_celln 0 b2.out (b1:Int) m6 m7
     replace m6:=eq_true m6
     replace m7:=eq_true m7
     have h6:=Kd.R_putn b2.out (b1:Int) (rd b0 (b5))
     rw [← h0.out] at h6
     have j9:=A_ h6
     clear h6
     refine start_ (n:=18) (S:=fun w'=>w'.cell? ⟨d4,((b5)).toNat,none⟩ = some (.int .i64 (rd b0 (b5))) ∧ w'.cell? ⟨d4,(b1).toNat,none⟩ = some (.int .i64 (rd b0 b1))) (ds:=[15,17]) (ba 18 0) (by kernel_rfl) rfl rfl ⟨d2,d3⟩ (fun hHeld=>?_)
     generalize p6.drew = l7 at b2 HK HB m9 j9 h5 b3 b4 d2 d3 h4 hHeld ⊢
     refine pr 2 39 4 ?_
     refine pr 3 40 12 ?_
     refine pr 4 41 28 ?_
     refine pr 0 37 29 ?_
     refine pr 1 38 31 ?_
     refine pr 5 42 63 ?_
     refine pr 6 43 127 ?_
     refine pr 7 44 255 ?_
     refine pr 8 45 511 ?_
     refine pr 10 47 1535 ?_
     refine pr 11 48 3583 ?_
     refine pr 12 49 7679 ?_
     refine tr 9 46 8191 hHeld ?_
     refine tr 13 50 16383 hHeld ?_
     refine pr 14 51 32767 ?_
     refine last_ (i:=15) (N:=none) (ba 18 65535) rfl rfl (by kernel_rfl) (by decide) (fun K hK=>?_)
     refine skip_ (w1:=?_) (by rfl) rfl ?_ ?_
     rotate_left
     ·go_simp
      rfl
     refine hK.out _ _ ?_
     clear hK K
     have n0:Aside0 (Kd.R (Kd.int .i64) 3 (l7.setCell ⟨d4,(b1:Int).toNat,none⟩ (.int .i64 (rd b0 (b5)))) w0.heap.size (fun k_=>(d5 k_ ∨ w.heap.size ≤ k_)) (.slice (some ⟨d4,0,none⟩) b0.length m5) e2):=⟨by exact j9.out⟩
     have n1:Aside0 (Kept w (l7.setCell ⟨d4,(b1:Int).toNat,none⟩ (.int .i64 (rd b0 (b5)))) (fun k_=>d5 k_)):=⟨by repeat (first | (with_reducible first | exact HK.out | apply Kept.alloc | apply Kept.drewN | apply Kept.drew | refine Kept.setCell ?_ e7.out _) | exact HK.out)⟩
     have n2:Aside0 (Below w0.heap.size w0 (l7.setCell ⟨d4,(b1:Int).toNat,none⟩ (.int .i64 (rd b0 (b5))))):=⟨by repeat (first | (with_reducible first | exact HB.out | apply below_alloc | apply pw_below_drewN | apply below_drew1 | refine below_set ?_ j8.out) | exact HB.out)⟩
     generalize (l7.setCell ⟨d4,(b1:Int).toNat,none⟩ (.int .i64 (rd b0 (b5)))) = w21 at n0 n1 n2 ⊢
     have b2:=n0
     have HK:=n1
     have HB:=n2
     clear n0 n1 n2
     have n3:0 ≤ ((b5):Int):=of_decide_eq_true (by assumption)
     have n4:((b5):Int) < ((b0.length:Int):Int):=of_decide_eq_true (by assumption)
     obtain ⟨n5,n6⟩:=Kd.R_celln 0 b2.out ((b5):Int) n3 n4
     replace n3:=eq_true n3
     replace n4:=eq_true n4
     have h7:=Kd.R_putn b2.out ((b5):Int) (rd b0 b1)
     rw [← h1.out] at h7
     have n7:=A_ h7
     clear h7
     refine pr 16 52 131071 ?_
     refine last_ (i:=17) (N:=none) (ba 18 262143) rfl rfl (by kernel_rfl) (by decide) (fun K hK=>?_)
     refine skip_ (w1:=?_) (by rfl) rfl ?_ ?_
     rotate_left
     ·go_simp
      rfl
     refine hK.out _ _ ?_
     clear hK K
     refine done_ (by kernel_rfl) ?_
     try go_wp2
     go_roundg k2
     case measure=>have:=h8.out;have:=h9.out;omega
     case rel=>exact ⟨(e9),(b5),(by first | rfl | (simp;done) | (simp only [← d9] <;> (first | rfl | simp)) | (simp [*];done)),H',⟨by have:=h8.out;have:=h9.out;omega⟩,⟨by exact n7.out⟩,⟨by repeat (first | (with_reducible first | exact HK.out | apply Kept.alloc | apply Kept.drewN | apply Kept.drew | refine Kept.setCell ?_ e7.out _) | exact HK.out)⟩,⟨by repeat (first | (with_reducible first | exact HB.out | apply below_alloc | apply pw_below_drewN | apply below_drew1 | refine below_set ?_ j8.out) | exact HB.out)⟩⟩
end Go.Proofs.Ytjohcjfmlhihbaa.G
namespace Go.Proofs.Ytjohcjfmlhihbaa.G
open Go.RowKit Go.Proofs.YtjohcjfmlhihbaaW.PrintWords Go.Proofs.YtjohcjfmlhihbaaW.PrintLast Go.Proofs.YtjohcjfmlhihbaaW.PrintMore
set_option maxHeartbeats 8000000
set_option maxRecDepth 100000
attribute [local go_sem] cond_true cond_false fld23_0 fld23_1 fld45_0 fld45_1 fld109_0 fld109_1 fld94_0 fld94_1 max2_int min2_int max_two min_two max_three min_three max_four min_four   -- for this text's walks alone
mutual
def slices_stableCmpFunc_int.l0:Nat → List Int → Int → List (S23) → Int → Option (List Int)
 | 0,_,_,_,_=>none
 | k + 1,x0,x1,x2,x7=>(slices_insertionSortCmpFunc_int.f k x0 x7 x1 x2).bind fun b2=>(slices_stableCmpFunc_int.l1 k b2)
def slices_stableCmpFunc_int.l1:Nat → List Int → Option (List Int)
 | 0,_=>none
 | k + 1,x0=>some x0
end
def slices_stableCmpFunc_int.f (k:Nat) (l0:List Int) (a1:Int) (l2:List (S23)):Option (List Int):=if a1 < 20 then slices_stableCmpFunc_int.l0 k l0 a1 l2 0 else none
theorem slices_stableCmpFunc_int.mono_l:∀ k,(∀ y0 y1 y2 y3,LeO (slices_stableCmpFunc_int.l0 k y0 y1 y2 y3) (slices_stableCmpFunc_int.l0 (k + 1) y0 y1 y2 y3)) ∧ (∀ y0,LeO (slices_stableCmpFunc_int.l1 k y0) (slices_stableCmpFunc_int.l1 (k + 1) y0))
 | 0=>⟨fun _ _ _ _ r h=>by simp [slices_stableCmpFunc_int.l0] at h,fun _ r h=>by simp [slices_stableCmpFunc_int.l1] at h⟩
 | k + 1=>by
  obtain ⟨b8,b9⟩:=slices_stableCmpFunc_int.mono_l k
  refine ⟨?_,?_⟩
  ·intro y0 y1 y2 y3
   unfold slices_stableCmpFunc_int.l0
   repeat' first
   | (with_reducible exact b8 _ _ _ _)
   | (with_reducible exact b9 _)
   | (with_reducible exact slices_insertionSortCmpFunc_int.mono _ _ _ _ _)
   | (with_reducible exact LeO.refl _)
   | (with_reducible exact LeO.none _)
   | (with_reducible refine LeO.ite ?_ ?_)
   | (with_reducible refine LeO.bind ?_ (fun _=>?_))
   | exact b8 _ _ _ _
   | exact b9 _
   | exact slices_insertionSortCmpFunc_int.mono _ _ _ _ _
   | exact LeO.none _
   | refine LeO.ite ?_ ?_
   | refine LeO.bind ?_ (fun _=>?_)
  intro y0
  unfold slices_stableCmpFunc_int.l1
  repeat' first
  | (with_reducible exact b8 _ _ _ _)
  | (with_reducible exact b9 _)
  | (with_reducible exact slices_insertionSortCmpFunc_int.mono _ _ _ _ _)
  | (with_reducible exact LeO.refl _)
  | (with_reducible exact LeO.none _)
  | (with_reducible refine LeO.ite ?_ ?_)
  | (with_reducible refine LeO.bind ?_ (fun _=>?_))
  | exact b8 _ _ _ _
  | exact b9 _
  | exact slices_insertionSortCmpFunc_int.mono _ _ _ _ _
  | exact LeO.none _
  | refine LeO.ite ?_ ?_
  | refine LeO.bind ?_ (fun _=>?_)
theorem slices_stableCmpFunc_int.mono:∀ a0 a1 a2 k,LeO (slices_stableCmpFunc_int.f k a0 a1 a2) (slices_stableCmpFunc_int.f (k + 1) a0 a1 a2):=by
 intro a0 a1 a2 k
 obtain ⟨b8,b9⟩:=slices_stableCmpFunc_int.mono_l k
 unfold slices_stableCmpFunc_int.f
 repeat' first
   | (with_reducible exact b8 _ _ _ _)
   | (with_reducible exact b9 _)
   | (with_reducible exact slices_insertionSortCmpFunc_int.mono _ _ _ _ _)
   | (with_reducible exact LeO.refl _)
   | (with_reducible exact LeO.none _)
   | (with_reducible refine LeO.ite ?_ ?_)
   | (with_reducible refine LeO.bind ?_ (fun _=>?_))
   | exact b8 _ _ _ _
   | exact b9 _
   | exact slices_insertionSortCmpFunc_int.mono _ _ _ _ _
   | exact LeO.none _
   | refine LeO.ite ?_ ?_
   | refine LeO.bind ?_ (fun _=>?_)
theorem slices_stableCmpFunc_int.calls (k:Nat) (b3:Nat → Prop) (b1:Value) (l0:List Int) (a1:Int) (A2:Option Addr) (c2:Nat) (l2:List (S23)) (r:List Int) (w0 w:World) (gbF gbL:Nat) (d1:∀ W_,Kept w W_ (fun k_=>b3 k_) → W_.heap[gbF]? = some (.cells #[.func (.func 85) #[] #[]] 123 (0,0))) (d2:∀ W_,Kept w W_ (fun k_=>b3 k_) → W_.heap[gbL]? = some (.cells #[.slice A2 l2.length c2] 35 (0,0))) (d3:gbF ≠ gbL) (hB:Below w0.heap.size w0 w) (e1:Kd.R (Kd.int .i64) 3 w w0.heap.size b3 b1 l0) (d4:∀ W_,Kept w W_ (fun k_=>b3 k_) → Kd.C k23 W_ A2 l2.length l2) (d5:l2.length ≤ c2) (h:slices_stableCmpFunc_int.f k l0 a1 l2 = some r) :
  Calls Try.prog 127 #[b1,.int .i64 a1,.func (.func 114) #[] #[.pointer (some ⟨gbF,0,none⟩),.pointer (some ⟨gbL,0,none⟩)]] w fun e w'=>e = .returned (.tuple #[]) ∧ Kd.R (Kd.int .i64) 3 w' w0.heap.size (fun k_=>(b3 k_ ∨ w.heap.size ≤ k_)) b1 r ∧ Below w0.heap.size w0 w' ∧ Kept w w' (fun k_=>b3 k_):=by
 have e2:=Aside0.mk (show Kd.R (Kd.int .i64) 3 w w0.heap.size (fun k_=>(b3 k_ ∨ w.heap.size ≤ k_)) b1 l0 from Kd.R_mono e1 (fun k_ hk=>(.inl hk)))
 have BKF:=Aside0.mk d1
 have BKL:=Aside0.mk d2
 have NBFL:=Aside0.mk d3
 clear d1 d2 d3
 have e3:=Aside0.mk d4
 have e4:=Aside0.mk d5
 clear d4 d5
 have HK:=Aside0.mk (Kept.refl w (fun k_=>b3 k_))
 have e6:=Aside0.mk hB.size
 have HB:=Aside0.mk hB
 clear hB
 unfold slices_stableCmpFunc_int.f at h
 by_cases b5:a1 < 20
 case neg=>rw [if_neg b5] at h;cases h
 rw [if_pos b5] at h
 have d20a:decide (20 ≤ a1) = false:=decide_eq_false (by omega)
 have d20b:decide (20 < a1) = false:=decide_eq_false (by omega)
 clear b5
 have H:(slices_stableCmpFunc_int.l0 k l0 a1 l2 0) = some r:=h
 clear h
 have H':=Aside0.mk H
 clear H
 go_enter Try.func127,Try.ntmps127
 go_wp2
 go_loopg [7,8] k (fun kq v7 v8 w'=>∃ (b4:List Int) (b7:Int),v7 = .int .i64 b7 ∧ v8 = .int .i64 20 ∧ Aside0 (slices_stableCmpFunc_int.l0 kq b4 a1 l2 b7 = some r) ∧ Aside0 (kq ≤ k) ∧ Aside0 (Kd.R (Kd.int .i64) 3 w' w0.heap.size (fun k_=>(b3 k_ ∨ w.heap.size ≤ k_)) b1 b4) ∧ Aside0 (Kept w w' (fun k_=>b3 k_)) ∧ Aside0 (Below w0.heap.size w0 w'))
 case atStart=>exact ⟨(l0),(0),(by first | rfl | (simp;done) | (simp [*];done)),rfl,H',⟨Nat.le_refl _⟩,⟨by (with_reducible repeat (first | apply Kd.R_alloc | apply Kd.R_drewN | apply Kd.R_drew));exact e2.out⟩,⟨by repeat (first | (with_reducible first | exact HK.out | apply Kept.alloc | apply Kept.drewN | apply Kept.drew) | exact HK.out)⟩,⟨by repeat (first | (with_reducible first | exact HB.out | apply below_alloc | apply pw_below_drewN | apply below_drew1) | exact HB.out)⟩⟩
 case round =>
  clear H'
  try clear c1
  try clear c2
  try clear p2
  obtain ⟨b4,b7,rfl,rfl,HA,e7,b0,HK,HB⟩:=hrel
  cases gk with
  | zero=>exact absurd HA.out (by simp [slices_stableCmpFunc_int.l0])
  | succ k1 =>
   have H:=HA.out
   clear HA
   simp only [slices_stableCmpFunc_int.l0] at H
   replace H:=Option.bind_eq_some_iff.mp H
   obtain ⟨b2,d6,H⟩:=H
   replace H:(slices_stableCmpFunc_int.l1 k1 b2) = some r:=H
   have A4:=Aside0.mk d6
   clear d6
   have H':=Aside0.mk H
   clear H
   obtain ⟨c0,d0,e5⟩:=Kd.R_slice b0.out
   subst e5
   go_wp2_with fail
   refine (slices_insertionSortCmpFunc_int.calls k1 (fun k_=>some k_ = (.slice c0 b4.length d0:Value).ownBlock) (.slice c0 b4.length d0) b4 b7 a1 _ _ l2 b2 w0 _ gbF gbL (fun W_ hk_=>BKF.out W_ (Kept.then_ (S:=(fun k_=>b3 k_)) (by repeat (first | (with_reducible first | exact HK.out | apply Kept.alloc | apply Kept.drewN | apply Kept.drew) | exact HK.out)) hk_ (fun k_ hs_=>(fun e_=>(b0.out.1 k_ e_.symm)) hs_))) (fun W_ hk_=>BKL.out W_ (Kept.then_ (S:=(fun k_=>b3 k_)) (by repeat (first | (with_reducible first | exact HK.out | apply Kept.alloc | apply Kept.drewN | apply Kept.drew) | exact HK.out)) hk_ (fun k_ hs_=>(fun e_=>(b0.out.1 k_ e_.symm)) hs_))) NBFL.out ?side1 ?side2 ?side3 ?side4 A4.out).mono ?_
   case side1=>repeat (first | (with_reducible first | exact HB.out | apply below_alloc | apply pw_below_drewN | apply below_drew1) | exact HB.out)
   case side2=>exact Kd.R_tight rfl b0.out
   case side3=>exact Kd.C_kept_call e3.out (by repeat (first | (with_reducible first | exact HK.out | apply Kept.alloc | apply Kept.drewN | apply Kept.drew) | exact HK.out)) (fun k_ hs_=>(fun e_=>(b0.out.1 k_ e_.symm)) hs_)
   case side4=>exact e4.out
   rintro e w6 ⟨rfl,d7,hb,hkp⟩
   have d8:=Aside0.mk (Kd.R_reok rfl d7 (fun k_ e_=>b0.out.1 k_ e_))
   have d9:=Aside0.mk (Kept.then_ (S:=(fun k_=>b3 k_)) (by repeat (first | (with_reducible first | exact HK.out | apply Kept.alloc | apply Kept.drewN | apply Kept.drew) | exact HK.out)) hkp (fun k_ hs_=>(fun e_=>(b0.out.1 k_ e_.symm)) hs_))
   have e0:=Aside0.mk (hb)
   clear b0
   clear HK
   clear HB
   have b0:=d8
   have HK:=d9
   have HB:=e0
   clear d8 d9 e0
   (try clear hb)
   (try clear hkp)
   (try clear d7)
   go_wp2_with fail
   go_loopg [6] k1 (fun kq v6 w'=>v6 = .int .i64 20 ∧ Aside0 (slices_stableCmpFunc_int.l1 kq b2 = some r) ∧ Aside0 (kq ≤ k1) ∧ Aside0 (Kd.R (Kd.int .i64) 3 w' w0.heap.size (fun k_=>(b3 k_ ∨ w.heap.size ≤ k_)) (.slice c0 b4.length d0) b2) ∧ Aside0 (Kept w w' (fun k_=>b3 k_)) ∧ Aside0 (Below w0.heap.size w0 w'))
   case atStart=>exact ⟨rfl,H',⟨Nat.le_refl _⟩,⟨by (with_reducible repeat (first | apply Kd.R_alloc | apply Kd.R_drewN | apply Kd.R_drew));exact b0.out⟩,⟨by repeat (first | (with_reducible first | exact HK.out | apply Kept.alloc | apply Kept.drewN | apply Kept.drew) | exact HK.out)⟩,⟨by repeat (first | (with_reducible first | exact HB.out | apply below_alloc | apply pw_below_drewN | apply below_drew1) | exact HB.out)⟩⟩
   case round =>
    clear H'
    try clear c1
    try clear c2
    try clear p2
    try clear p2
    obtain ⟨rfl,HA,e8,b0,HK,HB⟩:=hrel
    have b6:=(Kd.R_reads' b0.out).1
    rw [b6] at b0
    (try simp only [b6])
    cases gk with
    | zero=>exact absurd HA.out (by simp [slices_stableCmpFunc_int.l1])
    | succ k2 =>
     have H:=HA.out
     clear HA
     simp only [slices_stableCmpFunc_int.l1] at H
     obtain rfl:=Option.some.inj H
     go_wp2
     first | go_end0 | ((try simp only [Exit.inBlock,Exit.then]);refine bodyPost_ret (results_none rfl _ _ _) rfl ?_)
     exact ⟨by first | rfl | (simp [errW_none,errW_some] <;> rfl) | (simp [*,errW_none,errW_some] <;> rfl),(by first | exact (by (with_reducible repeat (first | apply Kd.R_alloc | apply Kd.R_drewN | apply Kd.R_drew));exact b0.out) | (simp only [b6];exact (by (with_reducible repeat (first | apply Kd.R_alloc | apply Kd.R_drewN | apply Kd.R_drew));exact b0.out))),by repeat (first | (with_reducible first | exact HB.out | apply below_alloc | apply pw_below_drewN | apply below_drew1) | exact HB.out),by repeat (first | (with_reducible first | exact HK.out | apply Kept.alloc | apply Kept.drewN | apply Kept.drew) | exact HK.out)⟩
def slices_SortStableFunc_int_int.f (k:Nat) (l0:List Int) (l1:List (S23)):Option (List Int):=(slices_stableCmpFunc_int.f k l0 (l0.length:Int) l1).bind fun b0=>(some b0)
theorem slices_SortStableFunc_int_int.mono:∀ a0 a1 k,LeO (slices_SortStableFunc_int_int.f k a0 a1) (slices_SortStableFunc_int_int.f (k + 1) a0 a1):=by
 intro a0 a1 k
 unfold slices_SortStableFunc_int_int.f
 repeat' first
   | (with_reducible exact slices_stableCmpFunc_int.mono _ _ _ _)
   | (with_reducible exact LeO.refl _)
   | (with_reducible exact LeO.none _)
   | (with_reducible refine LeO.ite ?_ ?_)
   | (with_reducible refine LeO.bind ?_ (fun _=>?_))
   | exact slices_stableCmpFunc_int.mono _ _ _ _
   | exact LeO.none _
   | refine LeO.ite ?_ ?_
   | refine LeO.bind ?_ (fun _=>?_)
theorem slices_SortStableFunc_int_int.calls (k:Nat) (b2:Nat → Prop) (b1:Value) (l0:List Int) (A1:Option Addr) (c1:Nat) (l1:List (S23)) (r:List Int) (w0 w:World) (gbF gbL:Nat) (b4:∀ W_,Kept w W_ (fun k_=>b2 k_) → W_.heap[gbF]? = some (.cells #[.func (.func 85) #[] #[]] 123 (0,0))) (b5:∀ W_,Kept w W_ (fun k_=>b2 k_) → W_.heap[gbL]? = some (.cells #[.slice A1 l1.length c1] 35 (0,0))) (b6:gbF ≠ gbL) (hB:Below w0.heap.size w0 w) (d5:Kd.R (Kd.int .i64) 3 w w0.heap.size b2 b1 l0) (b7:∀ W_,Kept w W_ (fun k_=>b2 k_) → Kd.C k23 W_ A1 l1.length l1) (b8:l1.length ≤ c1) (h:slices_SortStableFunc_int_int.f k l0 l1 = some r) :
  Calls Try.prog 113 #[b1,.func (.func 114) #[] #[.pointer (some ⟨gbF,0,none⟩),.pointer (some ⟨gbL,0,none⟩)]] w fun e w'=>e = .returned (.tuple #[]) ∧ Kd.R (Kd.int .i64) 3 w' w0.heap.size (fun k_=>(b2 k_ ∨ w.heap.size ≤ k_)) b1 r ∧ Below w0.heap.size w0 w' ∧ Kept w w' (fun k_=>b2 k_):=by
 have b3:=Aside0.mk (show Kd.R (Kd.int .i64) 3 w w0.heap.size (fun k_=>(b2 k_ ∨ w.heap.size ≤ k_)) b1 l0 from Kd.R_mono d5 (fun k_ hk=>(.inl hk)))
 have BKF:=Aside0.mk b4
 have BKL:=Aside0.mk b5
 have NBFL:=Aside0.mk b6
 clear b4 b5 b6
 have d6:=Aside0.mk b7
 have d7:=Aside0.mk b8
 clear b7 b8
 have HK:=Aside0.mk (Kept.refl w (fun k_=>b2 k_))
 have d9:=Aside0.mk hB.size
 have HB:=Aside0.mk hB
 clear hB
 have H:((slices_stableCmpFunc_int.f k l0 (l0.length:Int) l1).bind fun b0=>(some b0)) = some r:=h
 clear h
 replace H:=Option.bind_eq_some_iff.mp H
 obtain ⟨b0,b9,H⟩:=H
 replace H:(some b0) = some r:=H
 have A3:=Aside0.mk b9
 clear b9
 obtain rfl:=Option.some.inj H
 obtain ⟨c0,d0,d8⟩:=Kd.R_slice b3.out
 subst d8
 go_enter Try.func113,Try.ntmps113
 go_wp2_with fail
 refine (slices_stableCmpFunc_int.calls k (fun k_=>some k_ = (.slice c0 l0.length d0:Value).ownBlock) (.slice c0 l0.length d0) l0 (l0.length:Int) _ _ l1 b0 w0 _ gbF gbL (fun W_ hk_=>BKF.out W_ (Kept.then_ (S:=(fun k_=>b2 k_)) (by repeat (first | (with_reducible first | exact HK.out | apply Kept.alloc | apply Kept.drewN | apply Kept.drew) | exact HK.out)) hk_ (fun k_ hs_=>(fun e_=>(b3.out.1 k_ e_.symm)) hs_))) (fun W_ hk_=>BKL.out W_ (Kept.then_ (S:=(fun k_=>b2 k_)) (by repeat (first | (with_reducible first | exact HK.out | apply Kept.alloc | apply Kept.drewN | apply Kept.drew) | exact HK.out)) hk_ (fun k_ hs_=>(fun e_=>(b3.out.1 k_ e_.symm)) hs_))) NBFL.out ?side1 ?side2 ?side3 ?side4 A3.out).mono ?_
 case side1=>repeat (first | (with_reducible first | exact HB.out | apply below_alloc | apply pw_below_drewN | apply below_drew1) | exact HB.out)
 case side2=>exact Kd.R_tight rfl b3.out
 case side3=>exact Kd.C_kept_call d6.out (by repeat (first | (with_reducible first | exact HK.out | apply Kept.alloc | apply Kept.drewN | apply Kept.drew) | exact HK.out)) (fun k_ hs_=>(fun e_=>(b3.out.1 k_ e_.symm)) hs_)
 case side4=>exact d7.out
 rintro e w5 ⟨rfl,d1,hb,hkp⟩
 have d2:=Aside0.mk (Kd.R_reok rfl d1 (fun k_ e_=>b3.out.1 k_ e_))
 have d3:=Aside0.mk (Kept.then_ (S:=(fun k_=>b2 k_)) (by repeat (first | (with_reducible first | exact HK.out | apply Kept.alloc | apply Kept.drewN | apply Kept.drew) | exact HK.out)) hkp (fun k_ hs_=>(fun e_=>(b3.out.1 k_ e_.symm)) hs_))
 have d4:=Aside0.mk (hb)
 clear b3
 clear HK
 clear HB
 have b3:=d2
 have HK:=d3
 have HB:=d4
 clear d2 d3 d4
 (try clear hb)
 (try clear hkp)
 (try clear d1)
 go_wp2_with fail
 first | go_end0 | ((try simp only [Exit.inBlock,Exit.then]);refine bodyPost_ret (results_none rfl _ _ _) rfl ?_)
 exact ⟨by first | rfl | (simp [errW_none,errW_some] <;> rfl) | (simp [*,errW_none,errW_some] <;> rfl),by (with_reducible repeat (first | apply Kd.R_alloc | apply Kd.R_drewN | apply Kd.R_drew));exact b3.out,by repeat (first | (with_reducible first | exact HB.out | apply below_alloc | apply pw_below_drewN | apply below_drew1) | exact HB.out),by repeat (first | (with_reducible first | exact HK.out | apply Kept.alloc | apply Kept.drewN | apply Kept.drew) | exact HK.out)⟩
def by_compare.l0:Nat → List Int → Int → Int → List (S23) → Option (List Int)
 | 0,_,_,_,_=>none
 | k + 1,x5,x8,x9,d0=>if x9 < x8 then (if x5.length < 17592186044416 then (by_compare.l0 k (x5 ++ [x9]) x8 (wrap64 (x9 + 1)) d0) else (none)) else ((slices_SortStableFunc_int_int.f k x5 d0).bind fun d2=>(some d2))
def by_compare.f (k:Nat) (l0:List (S23)):Option (List Int):=by_compare.l0 k ([]:List Int) (l0.length:Int) 0 l0
theorem by_compare.mono_l:∀ k,(∀ y0 y1 y2 y3,LeO (by_compare.l0 k y0 y1 y2 y3) (by_compare.l0 (k + 1) y0 y1 y2 y3))
 | 0=>fun _ _ _ _ r h=>by simp [by_compare.l0] at h
 | k + 1=>by
  have e0:=by_compare.mono_l k
  intro y0 y1 y2 y3
  unfold by_compare.l0
  repeat' first
  | (with_reducible exact e0 _ _ _ _)
  | (with_reducible exact slices_SortStableFunc_int_int.mono _ _ _)
  | (with_reducible exact LeO.refl _)
  | (with_reducible exact LeO.none _)
  | (with_reducible refine LeO.ite ?_ ?_)
  | (with_reducible refine LeO.bind ?_ (fun _=>?_))
  | exact e0 _ _ _ _
  | exact slices_SortStableFunc_int_int.mono _ _ _
  | exact LeO.none _
  | refine LeO.ite ?_ ?_
  | refine LeO.bind ?_ (fun _=>?_)
theorem by_compare.mono:∀ a0 k,LeO (by_compare.f k a0) (by_compare.f (k + 1) a0):=by
 intro a0 k
 have e0:=by_compare.mono_l k
 unfold by_compare.f
 repeat' first
   | (with_reducible exact e0 _ _ _ _)
   | (with_reducible exact slices_SortStableFunc_int_int.mono _ _ _)
   | (with_reducible exact LeO.refl _)
   | (with_reducible exact LeO.none _)
   | (with_reducible refine LeO.ite ?_ ?_)
   | (with_reducible refine LeO.bind ?_ (fun _=>?_))
   | exact e0 _ _ _ _
   | exact slices_SortStableFunc_int_int.mono _ _ _
   | exact LeO.none _
   | refine LeO.ite ?_ ?_
   | refine LeO.bind ?_ (fun _=>?_)
theorem by_compare.calls (k:Nat) (A0:Option Addr) (c0:Nat) (l0:List (S23)) (r:List Int) (w:World) (e9:Kd.C k23 w A0 l0.length l0) (h0:l0.length ≤ c0) (h:by_compare.f k l0 = some r) :
  Calls Try.prog 84 #[.slice A0 l0.length c0,.func (.func 85) #[] #[]] w fun e w'=>∃ h1:Value,e = .returned (h1) ∧ Kd.R (Kd.int .i64) 3 w' w.heap.size (fun _=>True) h1 r ∧ Below w.heap.size w w':=by
 have h8:=A_ e9
 have h9:=A_ h0
 clear e9 h0
 have HB:=A_ (Below.refl w.heap.size w)
 have H:(by_compare.l0 k ([]:List Int) (l0.length:Int) 0 l0) = some r:=h
 clear h
 have H':=A_ H
 clear H
 go_enter Try.func84,Try.ntmps84
 go_wp2_with (first | ((with_reducible refine gate_dst (N:=2) rfl ?_);refine box_event ?hg (N:=2) ?hd (cs:=#[.slice A0 l0.length c0]) (t:=35) ?hr ?_;(case hd=>rfl);(case hg=>rfl);(case hr=>first | (go_simp;done) | (go_simp;rfl));intro b5 hg w2 hbox hb;have b0:=A_ hbox;have d4:=gw hg HB;have b8:=d4;replace HB:=bB HB hb;clear hb hbox hg) | ((with_reducible refine gate_dst (N:=3) rfl ?_);refine box_event ?hg (N:=3) ?hd (cs:=#[.func (.func 85) #[] #[]]) (t:=123) ?hr ?_;(case hd=>rfl);(case hg=>rfl);(case hr=>first | (go_simp;done) | (go_simp;rfl));intro d1 hg w3 hbox hb;have b1:=A_ hbox;have d5:=gw hg HB;have b9:=d5;have b4:=nl hg b0;have b2:=ng hg b0;replace b0:=kB b0 hb;replace HB:=bB HB hb;clear hb hbox hg;have i0:=b4.out;have i1:=b2.out;have d6:w3.cell? ⟨b5,0,none⟩ = some (.slice A0 l0.length c0):=cz b0 0;have d7:=blk_frozen b0.out 0))
 go_loopg [5,9] k (fun kq v5 v9 w'=>∃ (c1:List Int) (b6:Int),v9 = .int .i64 b6 ∧ Aside0 (by_compare.l0 kq c1 (l0.length:Int) b6 l0 = some r) ∧ Aside0 (kq ≤ k) ∧ Aside0 (Kd.R (Kd.int .i64) 3 w' w.heap.size (fun _=>True) v5 c1) ∧ Aside0 (w'.heap[b5]? = some (.cells #[(.slice A0 l0.length c0)] 35 (0,0))) ∧ Aside0 (w'.heap[d1]? = some (.cells #[.func (.func 85) #[] #[]] 123 (0,0))) ∧ Aside0 (Below w.heap.size w w'))
 case atStart=>exact ⟨(([]:List Int)),(0),(by first | rfl | (simp;done) | (simp [*];done)),H',⟨Nat.le_refl _⟩,⟨by first | exact Kd.R_nil _ _ _ _ _ | exact Kd.N_nil _ _ _ _ _ | exact Kd.V_nil _ _ _ _ _ | exact Kd.Q_nil _ _ _ _ _ | exact Kd.S_nil _ _ _ _ _⟩,⟨by (with_reducible repeat (first | refine blk_drewN ?_ _ | refine blk_drew ?_ | refine blk_alloc ?_ _));exact b0.out⟩,⟨by (with_reducible repeat (first | refine blk_drewN ?_ _ | refine blk_drew ?_ | refine blk_alloc ?_ _));exact b1.out⟩,⟨by repeat (first | (with_reducible first | exact HB.out | apply below_alloc | apply pw_below_drewN | apply below_drew1 | refine below_set ?_ b8.out | refine below_set ?_ b9.out) | exact HB.out)⟩⟩
 case round =>
  clear H'
  try clear p2
  try clear c4
  try clear d6
  try clear d7
  obtain ⟨c1,b6,rfl,HA,h2,b3,b0,b1,HB⟩:=hrel
  cases gk with
  | zero=>exact absurd HA.out (by simp [by_compare.l0])
  | succ k1 =>
   have H:=HA.out
   clear HA
   simp only [by_compare.l0] at H
   by_cases c6:b6 < (l0.length:Int)
   case neg =>
    rw [if_neg c6] at H
    have e5:decide (b6 < (l0.length:Int)) = false:=decide_eq_false c6
    clear c6
    replace H:=Option.bind_eq_some_iff.mp H
    obtain ⟨d2,h3,H⟩:=H
    replace H:(some d2) = some r:=H
    have A9:=A_ h3
    clear h3
    obtain rfl:=Option.some.inj H
    have h4:=b4.out
    have h5:=b2.out
    have e3:wr.cell? ⟨b5,0,none⟩ = some (.slice A0 l0.length c0):=cz b0 0
    have e4:=blk_frozen b0.out 0
    obtain ⟨e1,e2,e6⟩:=Kd.R_slice b3.out
    subst e6
    go_wp2_with fail
    refine (slices_SortStableFunc_int_int.calls k1 (fun k_=>some k_ = (.slice e1 c1.length e2:Value).ownBlock) (.slice e1 c1.length e2) c1 _ _ l0 d2 w _ d1 b5 (fun W_ hk_=>blk_kept (kb b1) hk_ (fun hs_=>(fun e_=>(Kd.R_ne b3.out b1.out (by decide)) e_) hs_)) (fun W_ hk_=>blk_kept (kb b0) hk_ (fun hs_=>(fun e_=>(Kd.R_ne b3.out b0.out (by decide)) e_) hs_)) b2.out ?side1 ?side2 ?side3 ?side4 A9.out).mono ?_
    case side1=>repeat (first | (with_reducible first | exact HB.out | apply below_alloc | apply pw_below_drewN | apply below_drew1 | refine below_set ?_ b8.out | refine below_set ?_ b9.out) | exact HB.out)
    case side2=>exact Kd.R_tight rfl b3.out
    case side3=>exact Kd.C_kept_came k23_heap h8.out (bl HB) (fun k_ hs_=>(fun e_=>Kd.R_base b3.out k_ e_.symm) hs_)
    case side4=>exact h9.out
    rintro e i2 ⟨rfl,h6,hb,hkp⟩
    replace b0:=A_ (blk_kept (kb b0) hkp (fun hs_=>(fun e_=>(Kd.R_ne b3.out b0.out (by decide)) e_) hs_))
    replace b1:=A_ (blk_kept (kb b1) hkp (fun hs_=>(fun e_=>(Kd.R_ne b3.out b1.out (by decide)) e_) hs_))
    replace b3:=A_ (Kd.R_reok rfl h6 (fun k_ e_=>b3.out.1 k_ e_))
    replace HB:=A_ hb
    (try clear hb)
    (try clear hkp)
    (try clear h6)
    go_wp2_with fail
    go_ret
    exact ⟨_,by first | rfl | (simp [errW_none,errW_some] <;> rfl) | (simp [*,errW_none,errW_some] <;> rfl),by (with_reducible repeat (first | apply Kd.R_alloc | apply Kd.R_drewN | apply Kd.R_drew));exact b3.out,by repeat (first | (with_reducible first | exact HB.out | apply below_alloc | apply pw_below_drewN | apply below_drew1 | refine below_set ?_ b8.out | refine below_set ?_ b9.out) | exact HB.out)⟩
   rw [if_pos c6] at H
   have e5:decide (b6 < (l0.length:Int)) = true:=decide_eq_true c6
   clear c6
   by_cases c7:c1.length < 17592186044416
   case neg =>
    rw [if_neg c7] at H
    exact absurd H (by simp)
   rw [if_pos c7] at H
   have e7:=A_ c7
   clear c7
   obtain ⟨d3,b7⟩:∃ y_:List Int,y_ = (c1 ++ [b6]):=⟨_,rfl⟩
   replace H:(by_compare.l0 k1 d3 (l0.length:Int) (wrap64 (b6 + 1)) l0) = some r:=by first | (rw [b7];with_reducible exact H) | (have e8:=(Option.bind_some _ _).symm.trans H;rw [b7];with_reducible exact e8) | (have e8:=(Option.bind_some _ _).symm.trans H;with_reducible exact e8) | with_reducible exact H | (rw [b7];exact H) | exact H
   have d8:=A_ b7
   clear b7
   have H':=A_ H
   clear H
   go_wp2_with (first | ((with_reducible refine gate_builtin (b:=.append) (xs:=#[.tmp 12,.tmp 14]) rfl ?_);at_builtin;refine Kd.R_append (Kd.int .i64) (w0:=w) w.heap.size rfl (.tmp 12) (.tmp 14) 28 3 (.int .i64 0) 8 rfl Try.underlying28 info3 rfl (by decide) (by omega) u5 c1 b6 [.int .i64 b6] (fun _=>True) (fun _=>False) rfl rfl ?aP (fun _ hk=>hk.elim) ?aF ?aO ?aB ?aS ?aL ?_;(case aP=>exact rfl);(case aB=>exact (bl HB));(case aF=>exact (fun _ _=>trivial));(case aO=>exact (rs b3));(case aS=>exact (below_size (bl HB)));(case aL=>have:=e7.out;omega);intro h7 w8 ho hb hg hat;rw [← d8.out] at ho;have d9:=A_ ho;replace b0:=A_ (blk_grown (g:=b5) (o:=.cells #[.slice A0 l0.length c0] 35 (0,0)) (kb b0) hg (Kd.R_ne b3.out b0.out (by decide)));replace b1:=A_ (blk_grown (g:=d1) (o:=.cells #[.func (.func 85) #[] #[]] 123 (0,0)) (kb b1) hg (Kd.R_ne b3.out b1.out (by decide)));replace HB:=A_ hb;clear b3;clear ho hb hg hat))
   go_roundg k1
   case measure=>have:=h2.out;omega
   case rel=>exact ⟨(d3),(wrap64 (b6 + 1)),(by first | rfl | (simp;done) | (simp [*];done)),H',⟨by have:=h2.out;omega⟩,⟨by (with_reducible repeat (first | apply Kd.R_alloc | apply Kd.R_drewN | apply Kd.R_drew));exact d9.out⟩,⟨by (with_reducible repeat (first | refine blk_drewN ?_ _ | refine blk_drew ?_ | refine blk_alloc ?_ _));exact b0.out⟩,⟨by (with_reducible repeat (first | refine blk_drewN ?_ _ | refine blk_drew ?_ | refine blk_alloc ?_ _));exact b1.out⟩,⟨by repeat (first | (with_reducible first | exact HB.out | apply below_alloc | apply pw_below_drewN | apply below_drew1 | refine below_set ?_ b8.out | refine below_set ?_ b9.out) | exact HB.out)⟩⟩
end Go.Proofs.Ytjohcjfmlhihbaa.G
namespace Go.Proofs.Ytjohcjfmlhihbaa.G
open Go.RowKit Go.Proofs.YtjohcjfmlhihbaaW.PrintWords Go.Proofs.YtjohcjfmlhihbaaW.PrintLast Go.Proofs.YtjohcjfmlhihbaaW.PrintMore
set_option maxHeartbeats 8000000
set_option maxRecDepth 100000
attribute [local go_sem] cond_true cond_false fld23_0 fld23_1 fld45_0 fld45_1 fld109_0 fld109_1 fld94_0 fld94_1 max2_int min2_int max_two min_two max_three min_three max_four min_four
def shares_equal.l0:Nat → List (S23) → List (S23) → Int → List Int → Int → Int → Int → Int → Option ((List (S23)))
 | 0,_,_,_,_,_,_,_,_=>none
 | k + 1,x0,x5,x6,i7,x16,h0,e1,e2=>if h0 < x16 then (if 0 ≤ h0 then (if h0 < (i7.length:Int) then (if 0 ≤ (rd i7 h0) then (if (rd i7 h0) < (x0.length:Int) then ((shares_over.f k e1 e2 x6).bind fun h1=>((shares_smaller.f k ((rd_T23 x0 (rd i7 h0)).f0) ((rd_T23 x0 (rd i7 h0)).f1) h1.1 h1.2).bind fun h2=>(if (rd i7 h0) < (x5.length:Int) then ((some (x5.set ((rd i7 h0):Int).toNat (⟨h2.1,h2.2⟩:S23):List (S23))).bind fun b7=>((shares_minus.f k e1 e2 ((rd_T23 b7 (rd i7 h0)).f0) ((rd_T23 b7 (rd i7 h0)).f1)).bind fun d8=>(shares_equal.l0 k x0 b7 (wrap64 (x6 - 1)) i7 x16 (wrap64 (h0 + 1)) d8.1 d8.2))) else (none)))) else (none)) else (none)) else (none)) else (none)) else (some x5)
def shares_equal.f (k:Nat) (l0:List (S23)) (d9:Int) (e0:Int):Option ((List (S23))):=if 0 ≤ (l0.length:Int) then (if ((l0.length:Int):Int).toNat ≤ 17592186044416 then ((by_compare.f k l0).bind fun b0=>(shares_equal.l0 k l0 (List.replicate ((l0.length:Int):Int).toNat z23) (l0.length:Int) b0 (b0.length:Int) 0 d9 e0)) else (none)) else (none)
theorem shares_equal.mono_l:∀ k,(∀ y0 y1 y2 y3 y4 y5 y6 y7,LeO (shares_equal.l0 k y0 y1 y2 y3 y4 y5 y6 y7) (shares_equal.l0 (k + 1) y0 y1 y2 y3 y4 y5 y6 y7))
 | 0=>fun _ _ _ _ _ _ _ _ r h=>by simp [shares_equal.l0] at h
 | k + 1=>by
  have n2:=shares_equal.mono_l k
  intro y0 y1 y2 y3 y4 y5 y6 y7
  unfold shares_equal.l0
  repeat' first
  | (with_reducible first | exact n2 _ _ _ _ _ _ _ _ | exact by_compare.mono _ _ | exact shares_minus.mono _ _ _ _ _ | exact shares_over.mono _ _ _ _ | exact shares_smaller.mono _ _ _ _ _ | exact LeO.refl _ | exact LeO.none _ | refine LeO.ite ?_ ?_ | refine LeO.bind ?_ (fun _=>?_))
  | exact LeO.none _ | refine LeO.ite ?_ ?_ | refine LeO.bind ?_ (fun _=>?_)
theorem shares_equal.mono:∀ a0 a1 a2 k,LeO (shares_equal.f k a0 a1 a2) (shares_equal.f (k + 1) a0 a1 a2):=by
 intro a0 a1 a2 k
 have n2:=shares_equal.mono_l k
 unfold shares_equal.f
 repeat' first
   | (with_reducible first | exact n2 _ _ _ _ _ _ _ _ | exact by_compare.mono _ _ | exact shares_minus.mono _ _ _ _ _ | exact shares_over.mono _ _ _ _ | exact shares_smaller.mono _ _ _ _ _ | exact LeO.refl _ | exact LeO.none _ | refine LeO.ite ?_ ?_ | refine LeO.bind ?_ (fun _=>?_))
   | exact LeO.none _ | refine LeO.ite ?_ ?_ | refine LeO.bind ?_ (fun _=>?_)
def shares_equal.T6:Bool × List (List Nat × List Nat):=(true,[([],[]),([],[]),([],[]),([],[]),([2,3],[2,3]),([4],[4]),([],[]),([],[]),([6,7],[6,7]),([5,8,8],[5,8]),([0,1,0,1,2,3,4,5,6,7,8,9],[0,1]),([10,9,9,0,1,2,3,4,5,6,7,8,9],[9,10])])
def shares_equal.B6:List Nat:=[0,0,0,0,12,28,0,0,192,508,1023,2047]
theorem shares_equal.tab6:rtab .any (opsOf Try.f122 6) = shares_equal.T6:=by kernel_rfl
theorem shares_equal.bits6:waitsOk shares_equal.T6.2 shares_equal.B6 = true:=by kernel_rfl
theorem shares_equal.calls (k:Nat) (A0:Option Addr) (c0:Nat) (l0:List (S23)) (d9:Int) (e0:Int) (r:List (S23)) (w:World) (p1:Kd.C k23 w A0 l0.length l0) (p2:l0.length ≤ c0) (h:shares_equal.f k l0 d9 e0 = some r) :
  Calls Try.prog 122 #[.slice A0 l0.length c0,.agg #[.int .i64 d9,.int .i64 e0]] w fun e w'=>∃ p3:Value,e = .returned (p3) ∧ Kd.R k23 23 w' w.heap.size (fun _=>True) p3 r ∧ Below w.heap.size w w':=by
 have r1:=Try.underlying23
 have p4:=A_ p1
 have r2:=A_ p2
 clear p1 p2
 have HB:=A_ (Below.refl w.heap.size w)
 have H:(if 0 ≤ (l0.length:Int) then (if ((l0.length:Int):Int).toNat ≤ 17592186044416 then ((by_compare.f k l0).bind fun b0=>(shares_equal.l0 k l0 (List.replicate ((l0.length:Int):Int).toNat z23) (l0.length:Int) b0 (b0.length:Int) 0 d9 e0)) else (none)) else (none)) = some r:=h
 clear h
 replace H:=gd H
 obtain ⟨c3,H⟩:=H
 have r3:=eq_true c3
 have r4:=decide_eq_true c3
 clear c3
 replace H:=gd H
 obtain ⟨c4,H⟩:=H
 have r5:=eq_true c4
 have r6:=decide_eq_true c4
 clear c4
 obtain ⟨h3,e4⟩:∃ y_:List (S23),y_ = (List.replicate ((l0.length:Int):Int).toNat z23):=⟨_,rfl⟩
 replace H:((by_compare.f k l0).bind fun b0=>(shares_equal.l0 k l0 h3 (l0.length:Int) b0 (b0.length:Int) 0 d9 e0)) = some r:=by rw [e4];exact H
 have h4:=A_ e4
 clear e4
 replace H:=Option.bind_eq_some_iff.mp H
 obtain ⟨b0,p5,H⟩:=H
 replace H:(shares_equal.l0 k l0 h3 (l0.length:Int) b0 (b0.length:Int) 0 d9 e0) = some r:=H
 have A5:=A_ p5
 clear p5
 have H':=A_ H
 clear H
 go_enter Try.func122,Try.ntmps122
 go_wp2_with (first | ((with_reducible refine gate_dst (N:=3) rfl ?_);refine bx 3 #[.int .i64 d9,.int .i64 e0] 23 ?_;intro b5 hg w6 hbox hb;have b2:=A_ hbox;have j5:=gw hg HB;have n3:=j5;replace HB:=bB HB hb;clear hb hbox hg) | ((with_reducible refine gate_dst (N:=11) rfl ?_);refine Kd.R_make k23 _ 23 rfl (N:=11) rfl 35 _ _ rfl (l0.length:Int) rfl rfl Try.underlying35 (.agg #[(.int .i64 0),(.int .i64 0)]) 16 info23 rfl (by decide) (by omega) z23 (ok:=fun _=>True) (okp:=fun _=>True) (k23_mkM _ _ _ z23 ) (fun _ hk=>hk) trivial (of_decide_eq_true (by assumption)) (Nat.le_trans (Nat.mul_le_mul_right _ (of_decide_eq_true (by assumption):(l0.length:Int).toNat ≤ 17592186044416)) (by omega)) (Below.refl _ _) (Nat.le_refl _) ?_;intro l6 w7 l7 hb hg_ hnew_;clear hg_ hnew_;(first | rw [← h4.out] at l7 | (simp only [Int.reduceToNat] at l7;rw [← h4.out] at l7));have e5:=A_ (Kd.R_lower (Kd.R_newB l7 (g:=b5) (o:=.cells #[.int .i64 d9,.int .i64 e0] 23 (0,0)) b2.out) (below_size HB.out));replace b2:=kB b2 hb;replace HB:=bB HB hb;clear hb l7) | ((with_reducible refine gate_callee (f:=84) rfl ?_);refine gL (some 15) Try.func84 #[.slice A0 l0.length c0,.func (.func 85) #[] #[]] ?_;(with_reducible refine (by_compare.calls k _ _ l0 b0 _ ?side1 ?side2 A5.out).mono ?_);(case side1=>exact cB p4 HB);(case side2=>exact r2.out);rintro e w9 ⟨p6,rfl,r7,hb⟩;refine ⟨_,rfl,?_⟩;have h5:=A_ (Kd.R_lower r7 (below_size HB.out));replace e5:=rB e5 hb;replace b2:=kB b2 hb;replace HB:=bB HB hb;(try clear hb);obtain ⟨n4,l8,n5⟩:=Kd.R_slice h5.out;subst n5))
 go_loopg [6,17] k (fun kq v6 r8 w'=>∃ (d7:List (S23)) (e6:Int) (b1:Int) (b4:Int) (b3:Int),v6 = .int .i64 e6 ∧ r8 = .int .i64 b1 ∧ Aside0 (shares_equal.l0 kq l0 d7 e6 b0 (b0.length:Int) b1 b4 b3 = some r) ∧ Aside0 (kq ≤ k) ∧ Aside0 (Kd.R k23 23 w' w.heap.size (fun k_=>k_ ≠ b5) l6 d7) ∧ Aside0 (Kd.R (Kd.int .i64) 3 w' w.heap.size (fun _=>True) (.slice n4 b0.length l8) b0) ∧ Aside0 (w'.heap[b5]? = some (.cells #[.int .i64 b4,.int .i64 b3] 23 (0,0))) ∧ Aside0 (Below w.heap.size w w'))
 case atStart=>exact ⟨(h3),((l0.length:Int)),(0),(d9),(e0),rfl,rfl,H',⟨Nat.le_refl _⟩,⟨by exact Kd.R_mono e5.out (fun _ hk=>hk.2)⟩,⟨by exact h5.out⟩,⟨by exact b2.out⟩,⟨bl HB⟩⟩
 case round =>
  clear H'
  obtain ⟨d7,e6,b1,b4,b3,rfl,rfl,HA,p7,b6,b8,b2,HB⟩:=hrel
  cases gk with
  | zero=>exact absurd HA.out (by simp [shares_equal.l0])
  | succ k1 =>
   have H:=HA.out
   clear HA
   simp only [shares_equal.l0] at H
   by_cases l5:b1 < (b0.length:Int)
   case neg =>
    rw [if_neg l5] at H
    have l9:=decide_eq_false l5
    clear l5
    obtain rfl:=Option.some.inj H
    go_wp2
    go_ret
    exact ⟨_,rfl,by exact Kd.R_mono b6.out (fun _ hk=>trivial),bl HB⟩
   rw [if_pos l5] at H
   have l9:=decide_eq_true l5
   clear l5
   replace H:=gd H
   obtain ⟨p8,H⟩:=H
   have p9:=decide_eq_true p8
   clear p8
   replace H:=gd H
   obtain ⟨q0,H⟩:=H
   have q1:=decide_eq_true q0
   clear q0
   replace H:=gd H
   obtain ⟨q2,H⟩:=H
   have q3:=decide_eq_true q2
   clear q2
   replace H:=gd H
   obtain ⟨q4,H⟩:=H
   have q5:=decide_eq_true q4
   clear q4
   replace H:=Option.bind_eq_some_iff.mp H
   obtain ⟨⟨h6,h7⟩,A160,H⟩:=H
   dsimp only at H
   have r9:=A_ A160
   clear A160
   replace H:=Option.bind_eq_some_iff.mp H
   obtain ⟨⟨d1,d2⟩,A170,H⟩:=H
   dsimp only at H
   have s0:=A_ A170
   clear A170
   replace H:=gd H
   obtain ⟨q6,H⟩:=H
   have q7:=decide_eq_true q6
   clear q6
   obtain ⟨b7,e7⟩:∃ y_:List (S23),y_ = (d7.set ((rd b0 b1):Int).toNat (⟨d1,d2⟩:S23)):=⟨_,rfl⟩
   replace H:((shares_minus.f k1 b4 b3 ((rd_T23 b7 (rd b0 b1)).f0) ((rd_T23 b7 (rd b0 b1)).f1)).bind fun d8=>(shares_equal.l0 k1 l0 b7 (wrap64 (e6 - 1)) b0 (b0.length:Int) (wrap64 (b1 + 1)) d8.1 d8.2)) = some r:=by rw [e7];exact H
   have h8:=A_ e7
   clear e7
   replace H:=Option.bind_eq_some_iff.mp H
   obtain ⟨⟨e3,e9⟩,A200,H⟩:=H
   dsimp only at H
   have s1:=A_ A200
   clear A200
   have H':=A_ H
   clear H
   have h9:0 ≤ (b1:Int):=of_decide_eq_true (by assumption)
   have i0:b1 < (b0.length:Int):=of_decide_eq_true (by assumption)
   obtain ⟨j7,m0,m1⟩:=Kd.at_int (Kd.R_reads' b8.out).2.2 b1 h9 i0
   cases m0
   replace h9:=eq_true h9
   replace i0:=eq_true i0
   try go_wp2
   replace b6:=rD b6
   replace b8:=rD b8
   replace b2:=kD b2
   replace HB:=bD HB
   have i1:0 ≤ ((rd b0 b1):Int):=of_decide_eq_true (by assumption)
   have i2:(rd b0 b1) < (l0.length:Int):=of_decide_eq_true (by assumption)
   obtain ⟨e8,m2,d3,d4⟩:=at_T23 p4.out (rd b0 b1) i1 i2
   have b9:=d4
   have c1:=d3
   cases m2
   replace d3:=(HB.out.cell (World.block_lt_of_cell? w _ d3)).trans d3
   replace d4:=(HB.out.cell (World.block_lt_of_cell? w _ d4)).trans d4
   replace i1:=eq_true i1
   replace i2:=eq_true i2
   refine start_ (n:=12) (S:=fun w'=>w'.cell? ⟨b5,0,none⟩ = some (.int .i64 b4) ∧ w'.cell? ⟨b5,1,none⟩ = some (.int .i64 b3) ∧ w'.cell? (e8.add (((rd b0 b1)).toNat * 2)) = some (.int .i64 ((rd_T23 l0 (rd b0 b1)).f0)) ∧ w'.cell? ⟨(e8.add (((rd b0 b1)).toNat * 2)).block,(e8.add (((rd b0 b1)).toNat * 2)).off + 1,none⟩ = some (.int .i64 ((rd_T23 l0 (rd b0 b1)).f1))) (ds:=[11]) (ba 12 0) (by kernel_rfl) rfl rfl ⟨cz b2 0,cz b2 1,((HB.out.cell (World.block_lt_of_cell? w _ c1)).trans c1),((HB.out.cell (World.block_lt_of_cell? w _ b9)).trans b9)⟩ (fun hHeld=>?_);refine with_tabW shares_equal.tab6 shares_equal.bits6 (fun HT_ HW_=>?_)
   generalize wr.drew = t1 at b6 b8 b2 HB d3 d4 hHeld ⊢
   refine pq 0 21 1 HT_ ?_
   refine pq 1 22 3 HT_ ?_
   refine pq 2 23 7 HT_ ?_
   refine pq 3 24 15 HT_ ?_
   refine pq 4 25 31 HT_ ?_
   refine pq 7 28 159 HT_ ?_
   refine tq 5 26 191 HT_ HW_ hHeld ?_
   refine tq 6 27 255 HT_ HW_ hHeld ?_
   refine oq 8 29 511 HT_ (fun K hK=>?_)
   refine gq Try.func96 #[.agg #[.int .i64 b4,.int .i64 b3],.int .i64 e6] ?_
   with_reducible refine (shares_over.calls k1 b4 b3 e6 h6 h7 _ r9.out).mono ?_
   rintro e t2 ⟨rfl,hb⟩
   refine ⟨_,rfl,?_⟩
   replace b6:=rB b6 hb
   replace b8:=rB b8 hb
   replace b2:=kB b2 hb
   replace HB:=bB HB hb
   (try clear hb)
   refine hK.out _ _ ⟨cz b2 0,cz b2 1,((HB.out.cell (World.block_lt_of_cell? w _ c1)).trans c1),((HB.out.cell (World.block_lt_of_cell? w _ b9)).trans b9)⟩ (fun hHeld=>?_)
   clear hK K
   refine nq 29 ?_
   refine oq 9 30 1023 HT_ (fun K hK=>?_)
   refine gq Try.func129 #[.agg #[.int .i64 ((rd_T23 l0 (rd b0 b1)).f0),.int .i64 ((rd_T23 l0 (rd b0 b1)).f1)],.agg #[.int .i64 h6,.int .i64 h7]] ?_
   with_reducible refine (shares_smaller.calls k1 ((rd_T23 l0 (rd b0 b1)).f0) ((rd_T23 l0 (rd b0 b1)).f1) h6 h7 d1 d2 _ s0.out).mono ?_
   rintro e m3 ⟨rfl,hb⟩
   refine ⟨_,rfl,?_⟩
   replace b6:=rB b6 hb
   replace b8:=rB b8 hb
   replace b2:=kB b2 hb
   replace HB:=bB HB hb
   (try clear hb)
   have n6:0 ≤ ((rd b0 b1):Int):=of_decide_eq_true (by assumption)
   have n7:((rd b0 b1):Int) < ((d7.length:Int):Int):=of_decide_eq_true (by assumption)
   obtain ⟨d0,n8,m4,m5,n9,s2,m6⟩:=Kd.R_form b6.out (by omega)
   (first | cases m4 | (injection m4 with ea_ en_ ec_;(first | subst ea_ | (injection ea_ with ea_;subst ea_));subst ec_;clear en_))
   have s3:=A_ m5
   have o0:=A_ m6
   clear m5 n9 m6
   obtain ⟨s4,m7,m8,i3,i4⟩:=Kd.R_elem b6.out z23 ((rd b0 b1):Int) n6 n7
   obtain rfl:=k23_openM m8
   have o1:World.cell? _ ⟨d0,((rd b0 b1):Int).toNat * 2,none⟩ = some (.int .i64 ((rd_T23 d7 (rd b0 b1)).f0)):=i3 0 _ rfl
   have o2:World.cell? _ ⟨d0,((rd b0 b1):Int).toNat * 2 + 1,none⟩ = some (.int .i64 ((rd_T23 d7 (rd b0 b1)).f1)):=i3 1 _ rfl
   have o3:World.frozen? _ ⟨d0,((rd b0 b1):Int).toNat * 2,none⟩ = false:=i4 0
   have o4:World.frozen? _ ⟨d0,((rd b0 b1):Int).toNat * 2 + 1,none⟩ = false:=i4 1
   clear m7 i3 i4 m8
   replace n6:=eq_true n6
   replace n7:=eq_true n7
   obtain ⟨s5,i8,m9,i9,n0⟩:=Kd.R_elem b6.out z23 ((rd b0 b1):Int) (of_decide_eq_true (by assumption)) (by have h_:((rd b0 b1):Int) < ((d7.length:Int):Int):=of_decide_eq_true (by assumption);first | exact h_ | (have e_:=(Kd.R_reads' b6.out).1;omega) | simpa using h_)
   obtain rfl:=k23_openM m9
   have j8:=(Kd.R_seg b6.out ((rd b0 b1):Int) (of_decide_eq_true (by assumption)) (by have h_:((rd b0 b1):Int) < ((d7.length:Int):Int):=of_decide_eq_true (by assumption);first | exact h_ | (have e_:=(Kd.R_reads' b6.out).1;omega) | simpa using h_) (seg:=[.int .i64 d1,.int .i64 d2]) (j:=0) i8 i9 (show 2 ≤ 2 from by decide) (x':=(⟨d1,d2⟩:S23)) (k23_mkM _ _ _ (⟨d1,d2⟩:S23) ) (fun _ hk=>hk)).1
   rw [← h8.out] at j8
   have o5:=A_ j8
   clear i8 i9 n0 m9 j8
   refine hK.out _ _ ⟨cz b2 0,cz b2 1,((HB.out.cell (World.block_lt_of_cell? w _ c1)).trans c1),((HB.out.cell (World.block_lt_of_cell? w _ b9)).trans b9)⟩ (fun hHeld=>?_)
   clear hK K
   refine nq 30 ?_
   refine pq 10 31 2047 HT_ ?_
   refine last_ (i:=11) (N:=none) (ba 12 4095) rfl rfl (one_of HT_.out (by kernel_rfl)) (by decide) (fun K hK=>?_)
   refine skip_ (w1:=?_) (by rfl) rfl ?_ ?_
   rotate_left
   ·go_simp
    rfl
   refine hK.out _ _ ?_
   clear hK K
   refine done_ (done_of HT_.out (by kernel_rfl)) ?_
   have o6:Aside0 (Kd.R k23 23 ((m3.setCell ⟨d0,((rd b0 b1):Int).toNat * 2,none⟩ (.int .i64 d1)).setCell ⟨d0,((rd b0 b1):Int).toNat * 2 + 1,none⟩ (.int .i64 d2)) w.heap.size (fun k_=>k_ ≠ b5) (.slice (some ⟨d0,0,none⟩) d7.length n8) b7):=⟨by exact o5.out⟩
   have o7:Aside0 (Kd.R (Kd.int .i64) 3 ((m3.setCell ⟨d0,((rd b0 b1):Int).toNat * 2,none⟩ (.int .i64 d1)).setCell ⟨d0,((rd b0 b1):Int).toNat * 2 + 1,none⟩ (.int .i64 d2)) w.heap.size (fun _=>True) (.slice (some j7) b0.length l8) b0):=⟨by exact Kd.R_mono (Kd.R_far (p:=⟨d0,((rd b0 b1):Int).toNat * 2 + 1,none⟩) (Kd.R_far (p:=⟨d0,((rd b0 b1):Int).toNat * 2,none⟩) (Kd.R_types b8.out o0.out (by decide)) (fun _ hk=>hk.2) (.int .i64 d1)) (fun _ hk=>hk.2) (.int .i64 d2)) (fun _ hk=>trivial)⟩
   have o8:Aside0 (((m3.setCell ⟨d0,((rd b0 b1):Int).toNat * 2,none⟩ (.int .i64 d1)).setCell ⟨d0,((rd b0 b1):Int).toNat * 2 + 1,none⟩ (.int .i64 d2)).heap[b5]? = some (.cells #[.int .i64 b4,.int .i64 b3] 23 (0,0))):=⟨by refine blk_far ?_ (by have h_:=Kd.R_away b6.out (fun _ hk=>hk);intro e_;exact h_ (by rw [e_];rfl)) _;refine blk_far ?_ (by have h_:=Kd.R_away b6.out (fun _ hk=>hk);intro e_;exact h_ (by rw [e_];rfl)) _;exact b2.out⟩
   have o9:Aside0 (Below w.heap.size w ((m3.setCell ⟨d0,((rd b0 b1):Int).toNat * 2,none⟩ (.int .i64 d1)).setCell ⟨d0,((rd b0 b1):Int).toNat * 2 + 1,none⟩ (.int .i64 d2))):=⟨bl HB⟩
   generalize ((m3.setCell ⟨d0,((rd b0 b1):Int).toNat * 2,none⟩ (.int .i64 d1)).setCell ⟨d0,((rd b0 b1):Int).toNat * 2 + 1,none⟩ (.int .i64 d2)) = s6 at o6 o7 o8 o9 ⊢
   have b6:=o6
   have b8:=o7
   have b2:=o8
   have HB:=o9
   clear o6 o7 o8 o9
   try go_wp2
   replace b6:=rD b6
   replace b8:=rD b8
   replace b2:=kD b2
   replace HB:=bD HB
   have i5:0 ≤ ((rd b0 b1):Int):=of_decide_eq_true (by assumption)
   have i6:(rd b0 b1) < (b7.length:Int):=(by have h_:((rd b0 b1):Int) < ((d7.length:Int):Int):=of_decide_eq_true (by assumption);first | (have e_:=(Kd.R_reads' b6.out).1;omega) | simpa only [h8.out,List.length_set] using h_)
   have p0:(((rd b0 b1):Int) < ((d7.length:Int):Int)) = True:=eq_true (of_decide_eq_true (by assumption))
   obtain ⟨j9,n1,d5,d6⟩:=at_T23 (Kd.R_reads' b6.out).2.2 (rd b0 b1) i5 i6
   obtain rfl:(⟨d0,0,none⟩:Addr) = j9:=(by injection n1)
   (first | simp only [add_plain] at d5 | simp only [add_at] at d5 | simp only [Addr.add,Nat.zero_add] at d5 | skip)
   (first | simp only [add_plain] at d6 | simp only [add_at] at d6 | simp only [Addr.add,Nat.zero_add] at d6 | skip)
   replace i5:=eq_true i5
   replace i6:=eq_true i6
   refine start_ (n:=7) (S:=fun w'=>w'.cell? ⟨b5,0,none⟩ = some (.int .i64 b4) ∧ w'.cell? ⟨b5,1,none⟩ = some (.int .i64 b3) ∧ w'.cell? ⟨d0,((rd b0 b1)).toNat * 2,none⟩ = some (.int .i64 ((rd_T23 b7 (rd b0 b1)).f0)) ∧ w'.cell? ⟨d0,((rd b0 b1)).toNat * 2 + 1,none⟩ = some (.int .i64 ((rd_T23 b7 (rd b0 b1)).f1))) (ds:=[6]) (ba 7 0) (by kernel_rfl) rfl rfl ⟨cz b2 0,cz b2 1,d5,d6⟩ (fun hHeld=>?_)
   generalize s6.drew = t3 at b6 b8 b2 HB d5 d6 hHeld ⊢
   refine pr 1 33 2 ?_
   refine pr 2 34 6 ?_
   refine pr 3 35 14 ?_
   refine tr 0 32 15 hHeld ?_
   refine tr 4 36 31 hHeld ?_
   refine os 5 37 63 (fun K hK=>?_)
   refine gq Try.func95 #[.agg #[.int .i64 b4,.int .i64 b3],.agg #[.int .i64 ((rd_T23 b7 (rd b0 b1)).f0),.int .i64 ((rd_T23 b7 (rd b0 b1)).f1)]] ?_
   with_reducible refine (shares_minus.calls k1 b4 b3 ((rd_T23 b7 (rd b0 b1)).f0) ((rd_T23 b7 (rd b0 b1)).f1) e3 e9 _ s1.out).mono ?_
   rintro e q8 ⟨rfl,hb⟩
   have s7:=(hb.cell (World.block_lt_of_cell? _ _ (hHeld.2.2.1))).trans (hHeld.2.2.1)
   have s8:=(hb.cell (World.block_lt_of_cell? _ _ (hHeld.2.2.2))).trans (hHeld.2.2.2)
   refine ⟨_,rfl,?_⟩
   replace b6:=rB b6 hb
   replace b8:=rB b8 hb
   replace b2:=kB b2 hb
   replace HB:=bB HB hb
   (try clear hb)
   refine hz hK (fun hHeld=>?_)
   clear hK K
   refine nq 37 ?_
   refine last_ (i:=6) (N:=none) (ba 7 127) rfl rfl (by kernel_rfl) (by decide) (fun K hK=>?_)
   have s9:q8.cell? ⟨b5,0,none⟩ = some (.int .i64 b4):=cz b2 0
   have q9:=blk_frozen b2.out 0
   have t0:q8.cell? ⟨b5,1,none⟩ = some (.int .i64 b3):=cz b2 1
   have r0:=blk_frozen b2.out 1
   refine skip_ (w1:=?_) (by rfl) rfl ?_ ?_
   rotate_left
   ·go_simp
    rfl
   refine hK.out _ _ ?_
   clear hK K
   refine done_ (by kernel_rfl) ?_
   try go_wp2
   go_roundg k1
   case measure=>have:=p7.out;omega
   case rel=>exact ⟨(b7),(wrap64 (e6 - 1)),(wrap64 (b1 + 1)),(e3),(e9),rfl,rfl,H',⟨by have:=p7.out;omega⟩,⟨by exact Kd.R_mono (Kd.R_far (p:=⟨b5,1,none⟩) (Kd.R_far (p:=⟨b5,0,none⟩) (Kd.R_mono b6.out (fun k_ hk=>(⟨hk,hk⟩:_ ∧ k_ ≠ b5))) (fun _ hk=>hk.2) (.int .i64 e3)) (fun _ hk=>hk.2) (.int .i64 e9)) (fun _ hk=>hk.1)⟩,⟨by exact Kd.R_mono (Kd.R_far (p:=⟨b5,1,none⟩) (Kd.R_far (p:=⟨b5,0,none⟩) (Kd.R_types b8.out b2.out (by decide)) (fun _ hk=>hk.2) (.int .i64 e3)) (fun _ hk=>hk.2) (.int .i64 e9)) (fun _ hk=>trivial)⟩,⟨by refine blk_put (cs:=#[.int .i64 e3,.int .i64 b3]) ?_ 1 _ rfl;refine blk_put (cs:=#[.int .i64 b4,.int .i64 b3]) ?_ 0 _ rfl;exact b2.out⟩,⟨bl HB⟩⟩
end Go.Proofs.Ytjohcjfmlhihbaa.G
