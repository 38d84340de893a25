/- Several texts, joined. -/
import Derived.Maps.Keyed
import Derived.Maps.Own
import Derived.Test.YtjohcjfmlhihbaaQA2
set_option linter.unusedVariables false
set_option linter.unusedSimpArgs false
namespace Go.Proofs.Ytjohcjfmlhihbaa.G
open Go.RowKit Go.Proofs.YtjohcjfmlhihbaaW.PrintWords Go.Proofs.YtjohcjfmlhihbaaW.PrintLast Go.Proofs.YtjohcjfmlhihbaaW.PrintMore
set_option maxHeartbeats 8000000
set_option maxRecDepth 100000
attribute [local go_sem] cond_true cond_false fld23_0 fld23_1 fld45_0 fld45_1 fld109_0 fld109_1 fld94_0 fld94_1 max2_int min2_int max_two min_two max_three min_three max_four min_four   -- for this text's walks alone
def shares_compare.f (k:Nat) (a0_0:Int) (a0_1:Int) (a1_0:Int) (a1_1:Int):Option (Int):=(shares_minus.f k a0_0 a0_1 a1_0 a1_1).bind fun bt118=>((cmp_Compare_int.f bt118.1 0).bind fun t120=>(some t120))
theorem shares_compare.mono:∀ a0 a1 a2 a3 k,LeO (shares_compare.f k a0 a1 a2 a3) (shares_compare.f (k + 1) a0 a1 a2 a3):=by
 intro a0 a1 a2 a3 k
 unfold shares_compare.f
 repeat' first
   | (with_reducible exact shares_minus.mono _ _ _ _ _)
   | (with_reducible exact LeO.refl _)
   | (with_reducible exact LeO.none _)
   | (with_reducible refine LeO.ite ?_ ?_)
   | (with_reducible refine LeO.bind ?_ (fun _=>?_))
   | exact shares_minus.mono _ _ _ _ _
   | exact LeO.none _
   | refine LeO.ite ?_ ?_
   | refine LeO.bind ?_ (fun _=>?_)
theorem shares_compare.calls (k:Nat) (a0_0:Int) (a0_1:Int) (a1_0:Int) (a1_1:Int) (r:Int) (w:World) (h:shares_compare.f k a0_0 a0_1 a1_0 a1_1 = some r) :
  Calls Try.prog 85 #[.agg #[.int .i64 a0_0,.int .i64 a0_1],.agg #[.int .i64 a1_0,.int .i64 a1_1]] w fun e w'=>e = .returned (.int .i64 r) ∧ Below w.heap.size w w':=by
 have hu23:=Try.underlying23
 have HB:=Aside0.mk (Below.refl w.heap.size w)
 have H:((shares_minus.f k a0_0 a0_1 a1_0 a1_1).bind fun bt118=>((cmp_Compare_int.f bt118.1 0).bind fun t120=>(some t120))) = some r:=h
 clear h
 replace H:=Option.bind_eq_some_iff.mp H
 obtain ⟨⟨t118,t119⟩,A30,H⟩:=H
 replace H:((cmp_Compare_int.f t118 0).bind fun t120=>(some t120)) = some r:=H
 have A3:=Aside0.mk A30
 clear A30
 replace H:=Option.bind_eq_some_iff.mp H
 obtain ⟨t120,A40,H⟩:=H
 replace H:(some t120) = some r:=H
 have A4:=Aside0.mk A40
 clear A40
 obtain rfl:=Option.some.inj H
 go_enter Try.func85,Try.ntmps85
 go_wp2_with (first | ((with_reducible refine gate_dst (N:=2) rfl ?_);refine box_event ?hg (N:=2) ?hd (cs:=#[.int .i64 a0_0,.int .i64 a0_1]) (t:=23) ?hr ?_;(case hd=>rfl);(case hg=>rfl);(case hr=>first | (go_simp;done) | (go_simp;rfl));intro gb116 hg w5 hbox hb;have n0_:=Aside0.mk (below_step (by repeat (first | (with_reducible first | exact HB.out | apply below_alloc | apply pw_below_drewN | apply below_drew1) | exact HB.out)) hb);have n1_:=Aside0.mk (hbox);have n2_:=Aside0.mk ((by rw [hg];exact (below_size (by repeat (first | (with_reducible first | exact HB.out | apply below_alloc | apply pw_below_drewN | apply below_drew1) | exact HB.out))):w.heap.size ≤ gb116));have n3_:=Aside0.mk ((by rw [hg];exact (below_size (by repeat (first | (with_reducible first | exact HB.out | apply below_alloc | apply pw_below_drewN | apply below_drew1) | exact HB.out))):w.heap.size ≤ gb116));clear HB;have HB:=n0_;have BK116:=n1_;have GW116:=n2_;have GE116:=n3_;clear n0_ n1_ n2_ n3_;clear hb hbox hg) | ((with_reducible refine gate_dst (N:=3) rfl ?_);refine box_event ?hg (N:=3) ?hd (cs:=#[.int .i64 a1_0,.int .i64 a1_1]) (t:=23) ?hr ?_;(case hd=>rfl);(case hg=>rfl);(case hr=>first | (go_simp;done) | (go_simp;rfl));intro gb117 hg w6 hbox hb;have n0_:=Aside0.mk (blk_below (g:=gb116) (o:=.cells #[.int .i64 a0_0,.int .i64 a0_1] 23 (0,0)) (by (with_reducible repeat (first | refine blk_drewN ?_ _ | refine blk_drew ?_ | refine blk_alloc ?_ _));exact BK116.out) hb);have n1_:=Aside0.mk (below_step (by repeat (first | (with_reducible first | exact HB.out | apply below_alloc | apply pw_below_drewN | apply below_drew1 | refine below_set ?_ GE116.out) | exact HB.out)) hb);have n2_:=Aside0.mk (hbox);have n3_:=Aside0.mk ((by rw [hg];exact (below_size (by repeat (first | (with_reducible first | exact HB.out | apply below_alloc | apply pw_below_drewN | apply below_drew1 | refine below_set ?_ GE116.out) | exact HB.out))):w.heap.size ≤ gb117));have n4_:=Aside0.mk ((by rw [hg];exact (below_size (by repeat (first | (with_reducible first | exact HB.out | apply below_alloc | apply pw_below_drewN | apply below_drew1 | refine below_set ?_ GE116.out) | exact HB.out))):w.heap.size ≤ gb117));have n5_:=Aside0.mk ((by rw [hg];exact Nat.ne_of_lt (blk_lt (g:=gb116) (o:=.cells #[.int .i64 a0_0,.int .i64 a0_1] 23 (0,0)) (by (with_reducible repeat (first | refine blk_drewN ?_ _ | refine blk_drew ?_ | refine blk_alloc ?_ _));exact BK116.out)):gb116 ≠ gb117));have n6_:=Aside0.mk ((by rw [hg];exact Nat.ne_of_gt (blk_lt (g:=gb116) (o:=.cells #[.int .i64 a0_0,.int .i64 a0_1] 23 (0,0)) (by (with_reducible repeat (first | refine blk_drewN ?_ _ | refine blk_drew ?_ | refine blk_alloc ?_ _));exact BK116.out)):gb117 ≠ gb116));clear BK116;clear HB;have BK116:=n0_;have HB:=n1_;have BK117:=n2_;have GW117:=n3_;have GE117:=n4_;have NB116_117:=n5_;have NB117_116:=n6_;clear n0_ n1_ n2_ n3_ n4_ n5_ n6_;clear hb hbox hg;have hnb7:=NB116_117.out;have hnc7:=NB117_116.out;have hcz8_0:w6.cell? ⟨gb116,0,none⟩ = some (.int .i64 a0_0):=(blk_cell BK116.out 0).trans rfl;have hcz8_1:w6.cell? ⟨gb116,1,none⟩ = some (.int .i64 a0_1):=(blk_cell BK116.out 1).trans rfl;have hfz8_0:=blk_frozen BK116.out 0;have hfz8_1:=blk_frozen BK116.out 1;have hcz9_0:w6.cell? ⟨gb117,0,none⟩ = some (.int .i64 a1_0):=(blk_cell BK117.out 0).trans rfl;have hcz9_1:w6.cell? ⟨gb117,1,none⟩ = some (.int .i64 a1_1):=(blk_cell BK117.out 1).trans rfl;have hfz9_0:=blk_frozen BK117.out 0;have hfz9_1:=blk_frozen BK117.out 1) | ((with_reducible refine gate_callee (f:=95) rfl ?_);refine goesL_ (some 7) rfl rfl Try.func95 (by kernel_rfl) rfl #[.agg #[.int .i64 a0_0,.int .i64 a0_1],.agg #[.int .i64 a1_0,.int .i64 a1_1]] rfl (by (try simp only [List.map_toArray,List.map_cons,List.map_nil]);first | done | rfl | (simp only [List.length_drop,List.length_take];rfl)) ?_;(with_reducible refine (shares_minus.calls k a0_0 a0_1 a1_0 a1_1 t118 t119 _ A3.out).mono ?_);rintro e w10 ⟨rfl,hb⟩;refine ⟨_,rfl,?_⟩;have n0_:=Aside0.mk (blk_below (g:=gb116) (o:=.cells #[.int .i64 a0_0,.int .i64 a0_1] 23 (0,0)) (by (with_reducible repeat (first | refine blk_drewN ?_ _ | refine blk_drew ?_ | refine blk_alloc ?_ _));exact BK116.out) hb);have n1_:=Aside0.mk (blk_below (g:=gb117) (o:=.cells #[.int .i64 a1_0,.int .i64 a1_1] 23 (0,0)) (by (with_reducible repeat (first | refine blk_drewN ?_ _ | refine blk_drew ?_ | refine blk_alloc ?_ _));exact BK117.out) hb);have n2_:=Aside0.mk (below_step (by repeat (first | (with_reducible first | exact HB.out | apply below_alloc | apply pw_below_drewN | apply below_drew1 | refine below_set ?_ GE116.out | refine below_set ?_ GE117.out) | exact HB.out)) hb);clear BK116;clear BK117;clear HB;have BK116:=n0_;have BK117:=n1_;have HB:=n2_;clear n0_ n1_ n2_;(try clear hb)) | ((with_reducible refine gate_callee (f:=115) rfl ?_);refine goesL_ (some 9) rfl rfl Try.func115 (by kernel_rfl) rfl #[.int .i64 t118,.int .i64 0] rfl (by (try simp only [List.map_toArray,List.map_cons,List.map_nil]);first | done | rfl | (simp only [List.length_drop,List.length_take];rfl)) ?_;(with_reducible refine (cmp_Compare_int.calls t118 0 t120 _ A4.out).mono ?_);rintro e w' ⟨rfl,⟨nd,rfl⟩⟩;refine ⟨_,rfl,?_⟩))
 go_ret
 exact ⟨by first | rfl | (simp [errW_none,errW_some] <;> rfl) | (simp [*,errW_none,errW_some] <;> rfl),by repeat (first | (with_reducible first | exact HB.out | apply below_alloc | apply pw_below_drewN | apply below_drew1 | refine below_set ?_ GE116.out | refine below_set ?_ GE117.out) | exact HB.out)⟩
end Go.Proofs.Ytjohcjfmlhihbaa.G
namespace Go.Proofs.Ytjohcjfmlhihbaa.G
open Go.RowKit Go.Proofs.YtjohcjfmlhihbaaW.PrintWords Go.Proofs.YtjohcjfmlhihbaaW.PrintLast Go.Proofs.YtjohcjfmlhihbaaW.PrintMore
set_option maxHeartbeats 8000000
set_option maxRecDepth 100000
attribute [local go_sem] cond_true cond_false fld23_0 fld23_1 fld45_0 fld45_1 fld109_0 fld109_1 fld94_0 fld94_1 max2_int min2_int max_two min_two max_three min_three max_four min_four
mutual
def shares_net_fair.l0:Nat → List Int → List (S45) → List (S23) → List Bool → Option ((List (S23)))
 | 0,_,_,_,_=>none
 | k + 1,x243000,x243001,x247000,x251000=>(slices_Contains_bool_bool.f k x251000 false).bind fun t251=>(if t251 = true then (shares_net_fair.l1 k (-1) (x243000.length:Int) 0 x243000 x243001 x247000 x251000 0 0) else (some x247000))
def shares_net_fair.l1:Nat → Int → Int → Int → List Int → List (S45) → List (S23) → List Bool → Int → Int → Option ((List (S23)))
 | 0,_,_,_,_,_,_,_,_,_=>none
 | k + 1,x6,x26,x27,x243000,x243001,x247000,x251000,x253000,x253001=>if x27 < x26 then ((shares_net_fair_1.f k x27 x243000 x243001 x251000 x247000).bind fun bt253=>(if bt253.2.2 = true then (if x6 < 0 then (shares_net_fair.l1 k x27 x26 (wrap64 (x27 + 1)) x243000 x243001 x247000 x251000 bt253.1 bt253.2.1) else ((shares_compare.f k bt253.1 bt253.2.1 x253000 x253001).bind fun t257=>(if t257 < 0 then (shares_net_fair.l1 k x27 x26 (wrap64 (x27 + 1)) x243000 x243001 x247000 x251000 bt253.1 bt253.2.1) else (shares_net_fair.l1 k x6 x26 (wrap64 (x27 + 1)) x243000 x243001 x247000 x251000 x253000 x253001)))) else (shares_net_fair.l1 k x6 x26 (wrap64 (x27 + 1)) x243000 x243001 x247000 x251000 x253000 x253001))) else (shares_net_fair.l2 k x6 (x243001.length:Int) 0 x243000 x243001 x247000 x251000 x253000 x253001)
def shares_net_fair.l2:Nat → Int → Int → Int → List Int → List (S45) → List (S23) → List Bool → Int → Int → Option ((List (S23)))
 | 0,_,_,_,_,_,_,_,_,_=>none
 | k + 1,x6,x52,x53,x243000,x243001,x247000,x251000,x253000,x253001=>if x53 < x52 then (if 0 ≤ x53 then (if x53 < (x251000.length:Int) then (if rdOf false x251000 x53 = true then (shares_net_fair.l2 k x6 x52 (wrap64 (x53 + 1)) x243000 x243001 x247000 x251000 x253000 x253001) else ((shares_net_has.f k x243000 x243001 x53 x6).bind fun t259=>(if t259 = true then (if x53 < (x243001.length:Int) then ((shares_times.f k x253000 x253001 ((rd_T45 x243001 x53).f0)).bind fun bt261=>(if x53 < (x247000.length:Int) then (shares_net_fair.l2 k x6 x52 (wrap64 (x53 + 1)) x243000 x243001 (x247000.set (x53:Int).toNat (⟨bt261.1,bt261.2⟩:S23)) (x251000.set (x53:Int).toNat true) x253000 x253001) else (none))) else (none)) else (shares_net_fair.l2 k x6 x52 (wrap64 (x53 + 1)) x243000 x243001 x247000 x251000 x253000 x253001)))) else (none)) else (none)) else (shares_net_fair.l0 k x243000 x243001 x247000 x251000)
end
def shares_net_fair.f (k:Nat) (l0_0:List Int) (l0_1:List (S45)):Option ((List (S23))):=if 0 ≤ (l0_1.length:Int) then (if ((l0_1.length:Int):Int).toNat ≤ 17592186044416 then (if ((l0_1.length:Int):Int).toNat ≤ 281474976710656 then (shares_net_fair.l0 k l0_0 l0_1 (List.replicate ((l0_1.length:Int):Int).toNat z23) (List.replicate ((l0_1.length:Int):Int).toNat false)) else (none)) else (none)) else (none)
theorem shares_net_fair.mono_l:∀ k,(∀ y0 y1 y2 y3,LeO (shares_net_fair.l0 k y0 y1 y2 y3) (shares_net_fair.l0 (k + 1) y0 y1 y2 y3)) ∧ (∀ y0 y1 y2 y3 y4 y5 y6 y7 y8,LeO (shares_net_fair.l1 k y0 y1 y2 y3 y4 y5 y6 y7 y8) (shares_net_fair.l1 (k + 1) y0 y1 y2 y3 y4 y5 y6 y7 y8)) ∧ (∀ y0 y1 y2 y3 y4 y5 y6 y7 y8,LeO (shares_net_fair.l2 k y0 y1 y2 y3 y4 y5 y6 y7 y8) (shares_net_fair.l2 (k + 1) y0 y1 y2 y3 y4 y5 y6 y7 y8))
 | 0=>⟨fun _ _ _ _ r h=>by simp [shares_net_fair.l0] at h,fun _ _ _ _ _ _ _ _ _ r h=>by simp [shares_net_fair.l1] at h,fun _ _ _ _ _ _ _ _ _ r h=>by simp [shares_net_fair.l2] at h⟩
 | k + 1=>by
  obtain ⟨ih0,ih1,ih2⟩:=shares_net_fair.mono_l k
  refine ⟨?_,?_,?_⟩
  ·intro y0 y1 y2 y3
   unfold shares_net_fair.l0
   repeat' first
   | (with_reducible first | exact ih0 _ _ _ _ | exact ih1 _ _ _ _ _ _ _ _ _ | exact ih2 _ _ _ _ _ _ _ _ _ | exact shares_compare.mono _ _ _ _ _ | exact shares_net_fair_1.mono _ _ _ _ _ _ | exact shares_net_has.mono _ _ _ _ _ | exact shares_times.mono _ _ _ _ | exact slices_Contains_bool_bool.mono _ _ _ | exact LeO.refl _ | exact LeO.none _ | refine LeO.ite ?_ ?_ | refine LeO.bind ?_ (fun _=>?_))
   | exact LeO.none _ | refine LeO.ite ?_ ?_ | refine LeO.bind ?_ (fun _=>?_)
  ·intro y0 y1 y2 y3 y4 y5 y6 y7 y8
   unfold shares_net_fair.l1
   repeat' first
   | (with_reducible first | exact ih0 _ _ _ _ | exact ih1 _ _ _ _ _ _ _ _ _ | exact ih2 _ _ _ _ _ _ _ _ _ | exact shares_compare.mono _ _ _ _ _ | exact shares_net_fair_1.mono _ _ _ _ _ _ | exact shares_net_has.mono _ _ _ _ _ | exact shares_times.mono _ _ _ _ | exact slices_Contains_bool_bool.mono _ _ _ | exact LeO.refl _ | exact LeO.none _ | refine LeO.ite ?_ ?_ | refine LeO.bind ?_ (fun _=>?_))
   | exact LeO.none _ | refine LeO.ite ?_ ?_ | refine LeO.bind ?_ (fun _=>?_)
  intro y0 y1 y2 y3 y4 y5 y6 y7 y8
  unfold shares_net_fair.l2
  repeat' first
  | (with_reducible first | exact ih0 _ _ _ _ | exact ih1 _ _ _ _ _ _ _ _ _ | exact ih2 _ _ _ _ _ _ _ _ _ | exact shares_compare.mono _ _ _ _ _ | exact shares_net_fair_1.mono _ _ _ _ _ _ | exact shares_net_has.mono _ _ _ _ _ | exact shares_times.mono _ _ _ _ | exact slices_Contains_bool_bool.mono _ _ _ | exact LeO.refl _ | exact LeO.none _ | refine LeO.ite ?_ ?_ | refine LeO.bind ?_ (fun _=>?_))
  | exact LeO.none _ | refine LeO.ite ?_ ?_ | refine LeO.bind ?_ (fun _=>?_)
theorem shares_net_fair.mono:∀ a0 a1 k,LeO (shares_net_fair.f k a0 a1) (shares_net_fair.f (k + 1) a0 a1):=by
 intro a0 a1 k
 obtain ⟨ih0,ih1,ih2⟩:=shares_net_fair.mono_l k
 unfold shares_net_fair.f
 repeat' first
   | (with_reducible first | exact ih0 _ _ _ _ | exact ih1 _ _ _ _ _ _ _ _ _ | exact ih2 _ _ _ _ _ _ _ _ _ | exact shares_compare.mono _ _ _ _ _ | exact shares_net_fair_1.mono _ _ _ _ _ _ | exact shares_net_has.mono _ _ _ _ _ | exact shares_times.mono _ _ _ _ | exact slices_Contains_bool_bool.mono _ _ _ | exact LeO.refl _ | exact LeO.none _ | refine LeO.ite ?_ ?_ | refine LeO.bind ?_ (fun _=>?_))
   | exact LeO.none _ | refine LeO.ite ?_ ?_ | refine LeO.bind ?_ (fun _=>?_)
theorem shares_net_fair.calls (k:Nat) (A0_0:Option Addr) (c0_0:Nat) (l0_0:List Int) (A0_1:Option Addr) (c0_1:Nat) (l0_1:List (S45)) (r:List (S23)) (w:World) (hr0_0:Kd.C (Kd.int .i64) w A0_0 l0_0.length l0_0) (hc0_0:l0_0.length ≤ c0_0) (hr0_1:Kd.C k45 w A0_1 l0_1.length l0_1) (hc0_1:l0_1.length ≤ c0_1) (h:shares_net_fair.f k l0_0 l0_1 = some r) :
  Calls Try.prog 71 #[.agg #[.slice A0_0 l0_0.length c0_0,.slice A0_1 l0_1.length c0_1]] w fun e w'=>∃ v0_:Value,e = .returned (v0_) ∧ Kd.R k23 23 w' w.heap.size (fun _=>True) v0_ r ∧ Below w.heap.size w w':=by
 have hu109:=Try.underlying109
 have hu23:=Try.underlying23
 have HR0_0:=A_ hr0_0
 have HC0_0:=A_ hc0_0
 clear hr0_0 hc0_0
 have HR0_1:=A_ hr0_1
 have HC0_1:=A_ hc0_1
 clear hr0_1 hc0_1
 have HB:=A_ (Below.refl w.heap.size w)
 have H:(if 0 ≤ (l0_1.length:Int) then (if ((l0_1.length:Int):Int).toNat ≤ 17592186044416 then (if ((l0_1.length:Int):Int).toNat ≤ 281474976710656 then (shares_net_fair.l0 k l0_0 l0_1 (List.replicate ((l0_1.length:Int):Int).toNat z23) (List.replicate ((l0_1.length:Int):Int).toNat false)) else (none)) else (none)) else (none)) = some r:=h
 clear h
 replace H:=gd H
 obtain ⟨c2,H⟩:=H
 have c2b0:=eq_true c2
 have c2b1:=decide_eq_true c2
 clear c2
 replace H:=gd H
 obtain ⟨c3,H⟩:=H
 have c3b0:=eq_true c3
 have c3b1:=decide_eq_true c3
 clear c3
 obtain ⟨y243,hy243⟩:∃ y_:List (S23),y_ = (List.replicate ((l0_1.length:Int):Int).toNat z23):=⟨_,rfl⟩
 replace H:(if ((l0_1.length:Int):Int).toNat ≤ 281474976710656 then (shares_net_fair.l0 k l0_0 l0_1 y243 (List.replicate ((l0_1.length:Int):Int).toNat false)) else (none)) = some r:=by rw [hy243];exact H
 have Ny243:=A_ hy243
 clear hy243
 replace H:=gd H
 obtain ⟨c4,H⟩:=H
 have c4b0:=eq_true c4
 have c4b1:=decide_eq_true c4
 clear c4
 obtain ⟨y247,hy247⟩:∃ y_:List Bool,y_ = (List.replicate ((l0_1.length:Int):Int).toNat false):=⟨_,rfl⟩
 replace H:(shares_net_fair.l0 k l0_0 l0_1 y243 y247) = some r:=by rw [hy247];exact H
 have Ny247:=A_ hy247
 clear hy247
 have H':=A_ H
 clear H
 go_enter Try.func71,Try.ntmps71
 go_wp2_with (first | ((with_reducible refine gate_dst (N:=1) rfl ?_);refine bx 1 #[.slice A0_0 l0_0.length c0_0,.slice A0_1 l0_1.length c0_1] 109 ?_;intro gb242 hg w5 hbox hb;have BK242:=A_ hbox;have GW242:=gw hg HB;have GE242:=GW242;replace HB:=bB HB hb;clear hb hbox hg;have hcz6_0:w5.cell? ⟨gb242,0,none⟩ = some (.slice A0_0 l0_0.length c0_0):=cz BK242 0;have hcz6_1:w5.cell? ⟨gb242,1,none⟩ = some (.slice A0_1 l0_1.length c0_1):=cz BK242 1;have hfz6_0:=blk_frozen BK242.out 0;have hfz6_1:=blk_frozen BK242.out 1) | ((with_reducible refine gate_dst (N:=15) rfl ?_);refine Kd.R_make k23 _ 23 rfl (N:=15) rfl 35 _ _ rfl (l0_1.length:Int) rfl rfl Try.underlying35 (.agg #[(.int .i64 0),(.int .i64 0)]) 16 info23 rfl (by decide) (by omega) z23 (ok:=fun _=>True) (okp:=fun _=>True) (k23_mkM _ _ _ z23 ) (fun _ hk=>hk) trivial (of_decide_eq_true (by assumption)) (Nat.le_trans (Nat.mul_le_mul_right _ (of_decide_eq_true (by assumption):(l0_1.length:Int).toNat ≤ 17592186044416)) (by omega)) (Below.refl _ _) (Nat.le_refl _) ?_;intro v244 w7 ho8 hb hg_ hnew_;clear hg_ hnew_;(first | rw [← Ny243.out] at ho8 | (simp only [Int.reduceToNat] at ho8;rw [← Ny243.out] at ho8));have HO245:=A_ (Kd.R_lower ho8 (below_size (bl HB)));replace BK242:=kB BK242 hb;replace HB:=bB HB hb;clear hb ho8) | ((with_reducible refine gate_dst (N:=3) rfl ?_);refine bx 3 #[.slice none 0 0] 35 ?_;intro gb246 hg w9 hbox hb;have BK246:=A_ hbox;have GW246:=gw hg HB;have GE246:=GW246;have NB242_246:=nl hg BK242;have NB246_242:=ng hg BK242;replace HO245:=rB HO245 hb;replace BK242:=kB BK242 hb;replace HB:=bB HB hb;clear hb hbox hg;obtain ⟨Ao10,co10,eo10⟩:=Kd.R_slice HO245.out;subst eo10;have hnb11:=NB246_242.out;have hnc11:=NB242_246.out;have hcz12_0:w9.cell? ⟨gb246,0,none⟩ = some (.slice none 0 0):=cz BK246 0;have hfz12_0:=blk_frozen BK246.out 0;have hcz13_0:w9.cell? ⟨gb242,0,none⟩ = some (.slice A0_0 l0_0.length c0_0):=cz BK242 0;have hcz13_1:w9.cell? ⟨gb242,1,none⟩ = some (.slice A0_1 l0_1.length c0_1):=cz BK242 1;have hfz13_0:=blk_frozen BK242.out 0;have hfz13_1:=blk_frozen BK242.out 1) | ((with_reducible refine gate_dst (N:=19) rfl ?_);refine Kd.R_make Kd.bool _ 4 rfl (N:=19) rfl 115 _ _ rfl (l0_1.length:Int) rfl rfl Try.underlying115 (.bool false) 1 info4 rfl (by decide) (by omega) false (ok:=fun _=>True) (okp:=fun _=>True) rfl (fun _ hk=>hk) trivial (of_decide_eq_true (by assumption)) (Nat.le_trans (Nat.mul_le_mul_right _ (of_decide_eq_true (by assumption):(l0_1.length:Int).toNat ≤ 281474976710656)) (by omega)) (Below.refl _ _) (Nat.le_refl _) ?_;intro v248 w14 ho15 hb hg_ hnew_;clear hg_ hnew_;(first | rw [← Ny247.out] at ho15 | (simp only [Int.reduceToNat] at ho15;rw [← Ny247.out] at ho15));have HO249:=A_ (Kd.R_lower ho15 (below_size (bl HB)));replace HO245:=A_ (Kd.R_below (by exact (Kd.R_mono (Kd.R_far (p:=⟨gb246,0,none⟩) (Kd.R_types HO245.out BK246.out (by decide)) (fun _ hk=>hk.2) (.slice Ao10 y243.length co10)) (fun _ h_=>h_.1))) hb);replace BK242:=kB BK242 hb;replace BK246:=A_ (blk_below (g:=gb246) (o:=.cells #[.slice Ao10 y243.length co10] 35 (0,0)) (by refine blk_put (cs:=#[.slice none 0 0]) ?_ 0 _ rfl;exact BK246.out) hb);replace HB:=bB HB hb;clear hb ho15) | ((with_reducible refine gate_dst (N:=4) rfl ?_);refine bx 4 #[.slice none 0 0] 115 ?_;intro gb250 hg w16 hbox hb;have BK250:=A_ hbox;have GW250:=gw hg HB;have GE250:=GW250;have NB242_250:=nl hg BK242;have NB250_242:=ng hg BK242;have NB246_250:=nl hg BK246;have NB250_246:=ng hg BK246;replace HO245:=rB HO245 hb;replace HO249:=rB HO249 hb;replace BK242:=kB BK242 hb;replace BK246:=kB BK246 hb;replace HB:=bB HB hb;clear hb hbox hg;obtain ⟨Ao17,co17,eo17⟩:=Kd.R_slice HO249.out;subst eo17;have hnb18:=NB250_242.out;have hnc18:=NB242_250.out;have hnb19:=NB250_246.out;have hnc19:=NB246_250.out;have hcz20_0:w16.cell? ⟨gb250,0,none⟩ = some (.slice none 0 0):=cz BK250 0;have hfz20_0:=blk_frozen BK250.out 0))
 go_loopg [] k (fun kq w'=>∃ (x247000_1:List (S23)) (x251000_1:List Bool) (u247000:Value) (u251000:Value),Aside0 (shares_net_fair.l0 kq l0_0 l0_1 x247000_1 x251000_1 = some r) ∧ Aside0 (kq ≤ k) ∧ Aside0 (Kd.R k23 23 w' w.heap.size (fun _=>True) u247000 x247000_1) ∧ Aside0 (Kd.R Kd.bool 4 w' w.heap.size (fun _=>True) u251000 x251000_1) ∧ Aside0 (w'.heap[gb242]? = some (.cells #[(.slice A0_0 l0_0.length c0_0),(.slice A0_1 l0_1.length c0_1)] 109 (0,0))) ∧ Aside0 (w'.heap[gb246]? = some (.cells #[u247000] 35 (0,0))) ∧ Aside0 (w'.heap[gb250]? = some (.cells #[u251000] 115 (0,0))) ∧ Aside0 (Below w.heap.size w w'))
 case atStart=>exact ⟨(y243),(y247),(.slice Ao10 y243.length co10),(.slice Ao17 y247.length co17),H',⟨Nat.le_refl _⟩,⟨by exact Kd.R_mono (Kd.R_far (p:=⟨gb250,0,none⟩) (Kd.R_types HO245.out BK250.out (by decide)) (fun _ hk=>hk.2) (.slice Ao17 y247.length co17)) (fun _ hk=>trivial)⟩,⟨by exact Kd.R_mono (Kd.R_far (p:=⟨gb250,0,none⟩) (Kd.R_types HO249.out BK250.out (by decide)) (fun _ hk=>hk.2) (.slice Ao17 y247.length co17)) (fun _ hk=>trivial)⟩,⟨by refine blk_far ?_ NB242_250.out _;exact BK242.out⟩,⟨by refine blk_far ?_ NB246_250.out _;exact BK246.out⟩,⟨by refine blk_put (cs:=#[.slice none 0 0]) ?_ 0 _ rfl;exact BK250.out⟩,⟨bl HB⟩⟩
 case round =>
  clear H'
  obtain ⟨x247000_1,x251000_1,u247000,u251000,HA,HK1,HO_247000,HO_251000,BK242,BK246,BK250,HB⟩:=hrel
  cases gk with
  | zero=>exact absurd HA.out (by simp [shares_net_fair.l0])
  | succ k1 =>
   have H:=HA.out
   clear HA
   simp only [shares_net_fair.l0] at H
   replace H:=Option.bind_eq_some_iff.mp H
   obtain ⟨t251,A210,H⟩:=H
   replace H:(if t251 = true then (shares_net_fair.l1 k1 (-1) (l0_0.length:Int) 0 l0_0 l0_1 x247000_1 x251000_1 0 0) else (some x247000_1)) = some r:=H
   have A21:=A_ A210
   clear A210
   by_cases c22:t251 = true
   case neg =>
    replace c22:=Bool.eq_false_iff.mpr c22
    subst c22
    rw [if_neg (show ¬ (false = true) by decide)] at H
    obtain rfl:=Option.some.inj H
    have hnb176:=NB250_242.out
    have hnc176:=NB242_250.out
    have hnb177:=NB250_246.out
    have hnc177:=NB246_250.out
    have hcz178_0:wr.cell? ⟨gb250,0,none⟩ = some (u251000):=cz BK250 0
    have hfz178_0:=blk_frozen BK250.out 0
    obtain ⟨Ao179,co179,eo179⟩:=Kd.R_slice HO_251000.out
    subst eo179
    go_wp2_with (first | ((with_reducible refine gate_callee (f:=105) rfl ?_);refine gL (some 22) Try.func105 #[.slice Ao179 x251000_1.length co179,.bool false] ?_;(with_reducible refine (slices_Contains_bool_bool.calls k1 _ _ x251000_1 false false _ ?side1 ?side2 A21.out).mono ?_);(case side1=>repeat (first | exact (Kd.R_reads' HO_251000.out).2.2 | (with_reducible refine Kd.C_alloc ?_ _) | (with_reducible refine Kd.C_drewN ?_ _) | (with_reducible refine Kd.C_drew ?_)));(case side2=>exact (Kd.R_reads' HO_251000.out).2.1);rintro e w' ⟨rfl,⟨nd,rfl⟩⟩;refine ⟨_,rfl,?_⟩;have hnb180:=NB246_242.out;have hnc180:=NB242_246.out;have hcz181_0:wr.cell? ⟨gb246,0,none⟩ = some (u247000):=cz BK246 0;have hfz181_0:=blk_frozen BK246.out 0))
    go_ret
    exact ⟨_,rfl,by exact HO_247000.out,bl HB⟩
   subst c22
   rw [if_pos rfl] at H
   have H':=A_ H
   clear H
   have hnb23:=NB250_242.out
   have hnc23:=NB242_250.out
   have hnb24:=NB250_246.out
   have hnc24:=NB246_250.out
   have hcz25_0:wr.cell? ⟨gb250,0,none⟩ = some (u251000):=cz BK250 0
   have hfz25_0:=blk_frozen BK250.out 0
   obtain ⟨Ao26,co26,eo26⟩:=Kd.R_slice HO_251000.out
   subst eo26
   go_wp2_with (first | ((with_reducible refine gate_callee (f:=105) rfl ?_);refine gL (some 22) Try.func105 #[.slice Ao26 x251000_1.length co26,.bool false] ?_;(with_reducible refine (slices_Contains_bool_bool.calls k1 _ _ x251000_1 false true _ ?side1 ?side2 A21.out).mono ?_);(case side1=>repeat (first | exact (Kd.R_reads' HO_251000.out).2.2 | (with_reducible refine Kd.C_alloc ?_ _) | (with_reducible refine Kd.C_drewN ?_ _) | (with_reducible refine Kd.C_drew ?_)));(case side2=>exact (Kd.R_reads' HO_251000.out).2.1);rintro e w' ⟨rfl,⟨nd,rfl⟩⟩;refine ⟨_,rfl,?_⟩;(try (rw [drewN_self wr];generalize hq_:World.drewN wr _ = wr;replace HO_247000:Aside0 (Kd.R k23 23 wr w.heap.size (fun _=>True) u247000 x247000_1):=⟨by rw [← hq_];exact HO_247000.out⟩;replace HO_251000:Aside0 (Kd.R Kd.bool 4 wr w.heap.size (fun _=>True) (.slice Ao26 x251000_1.length co26) x251000_1):=⟨by rw [← hq_];exact HO_251000.out⟩;replace BK242:Aside0 (wr.heap[gb242]? = some (.cells #[.slice A0_0 l0_0.length c0_0,.slice A0_1 l0_1.length c0_1] 109 (0,0))):=⟨by rw [← hq_];exact BK242.out⟩;replace BK246:Aside0 (wr.heap[gb246]? = some (.cells #[u247000] 35 (0,0))):=⟨by rw [← hq_];exact BK246.out⟩;replace BK250:Aside0 (wr.heap[gb250]? = some (.cells #[.slice Ao26 x251000_1.length co26] 115 (0,0))):=⟨by rw [← hq_];exact BK250.out⟩;replace HB:Aside0 (Below w.heap.size w wr):=⟨by rw [← hq_];exact (bl HB)⟩;clear hq_))) | ((with_reducible refine gate_dst (N:=7) rfl ?_);refine bx 7 #[.int .i64 0,.int .i64 0] 23 ?_;intro gb252 hg w27 hbox hb;have BK252:=A_ hbox;have GW252:=gw hg HB;have GE252:=GW252;have NB242_252:=nl hg BK242;have NB252_242:=ng hg BK242;have NB246_252:=nl hg BK246;have NB252_246:=ng hg BK246;have NB250_252:=nl hg BK250;have NB252_250:=ng hg BK250;replace HO_247000:=A_ (Kd.R_below (Kd.R_elderB HO_247000.out gb252 (Nat.le_of_eq hg.symm)) hb);replace HO_251000:=rB HO_251000 hb;replace BK242:=kB BK242 hb;replace BK246:=kB BK246 hb;replace BK250:=kB BK250 hb;replace HB:=bB HB hb;clear hb hbox hg;have hnb28:=NB252_242.out;have hnc28:=NB242_252.out;have hnb29:=NB252_246.out;have hnc29:=NB246_252.out;have hnb30:=NB252_250.out;have hnc30:=NB250_252.out;have hcz31_0:w27.cell? ⟨gb252,0,none⟩ = some (.int .i64 0):=cz BK252 0;have hcz31_1:w27.cell? ⟨gb252,1,none⟩ = some (.int .i64 0):=cz BK252 1;have hfz31_0:=blk_frozen BK252.out 0;have hfz31_1:=blk_frozen BK252.out 1;have hnb32:=NB242_246.out;have hnc32:=NB246_242.out;have hcz33_0:w27.cell? ⟨gb242,0,none⟩ = some (.slice A0_0 l0_0.length c0_0):=cz BK242 0;have hcz33_1:w27.cell? ⟨gb242,1,none⟩ = some (.slice A0_1 l0_1.length c0_1):=cz BK242 1;have hfz33_0:=blk_frozen BK242.out 0;have hfz33_1:=blk_frozen BK242.out 1))
   go_loopg [6,27] k1 (fun kq v6 v27 w'=>∃ (x6_2:Int) (x27_2:Int) (x253000_2:Int) (x253001_2:Int),v6 = .int .i64 x6_2 ∧ v27 = .int .i64 x27_2 ∧ Aside0 (shares_net_fair.l1 kq x6_2 (l0_0.length:Int) x27_2 l0_0 l0_1 x247000_1 x251000_1 x253000_2 x253001_2 = some r) ∧ Aside0 (kq ≤ k1) ∧ Aside0 (Kd.R k23 23 w' w.heap.size (fun k_=>k_ ≠ gb252) u247000 x247000_1) ∧ Aside0 (Kd.R Kd.bool 4 w' w.heap.size (fun _=>True) (.slice Ao26 x251000_1.length co26) x251000_1) ∧ Aside0 (w'.heap[gb242]? = some (.cells #[(.slice A0_0 l0_0.length c0_0),(.slice A0_1 l0_1.length c0_1)] 109 (0,0))) ∧ Aside0 (w'.heap[gb246]? = some (.cells #[u247000] 35 (0,0))) ∧ Aside0 (w'.heap[gb250]? = some (.cells #[(.slice Ao26 x251000_1.length co26)] 115 (0,0))) ∧ Aside0 (w'.heap[gb252]? = some (.cells #[.int .i64 x253000_2,.int .i64 x253001_2] 23 (0,0))) ∧ Aside0 (Below w.heap.size w w'))
   case atStart=>exact ⟨((-1)),(0),(0),(0),rfl,rfl,H',⟨Nat.le_refl _⟩,⟨by exact Kd.R_mono (Kd.R_far (p:=⟨gb252,1,none⟩) (Kd.R_far (p:=⟨gb252,0,none⟩) (Kd.R_mono HO_247000.out (fun k_ hk=>(⟨hk,hk.2⟩:_ ∧ k_ ≠ gb252))) (fun _ hk=>hk.2) (.int .i64 0)) (fun _ hk=>hk.2) (.int .i64 0)) (fun _ hk=>hk.1.2)⟩,⟨by exact Kd.R_mono (Kd.R_far (p:=⟨gb252,1,none⟩) (Kd.R_far (p:=⟨gb252,0,none⟩) (Kd.R_types HO_251000.out BK252.out (by decide)) (fun _ hk=>hk.2) (.int .i64 0)) (fun _ hk=>hk.2) (.int .i64 0)) (fun _ hk=>trivial)⟩,⟨by refine blk_far ?_ NB242_252.out _;refine blk_far ?_ NB242_252.out _;exact BK242.out⟩,⟨by refine blk_far ?_ NB246_252.out _;refine blk_far ?_ NB246_252.out _;exact BK246.out⟩,⟨by refine blk_far ?_ NB250_252.out _;refine blk_far ?_ NB250_252.out _;exact BK250.out⟩,⟨by refine blk_put (cs:=#[.int .i64 0,.int .i64 0]) ?_ 1 _ rfl;refine blk_put (cs:=#[.int .i64 0,.int .i64 0]) ?_ 0 _ rfl;exact BK252.out⟩,⟨bl HB⟩⟩
   case round =>
    clear H'
    obtain ⟨x6_2,x27_2,x253000_2,x253001_2,rfl,rfl,HA,HK2,HO_247000,HO_251000,BK242,BK246,BK250,BK252,HB⟩:=hrel
    cases gk with
    | zero=>exact absurd HA.out (by simp [shares_net_fair.l1])
    | succ k2 =>
     have H:=HA.out
     clear HA
     simp only [shares_net_fair.l1] at H
     by_cases c34:x27_2 < (l0_0.length:Int)
     case neg =>
      rw [if_neg c34] at H
      have c34b0:=decide_eq_false c34
      clear c34
      have H':=A_ H
      clear H
      have hnb119:=NB242_246.out
      have hnc119:=NB246_242.out
      have hnb120:=NB242_250.out
      have hnc120:=NB250_242.out
      have hnb121:=NB242_252.out
      have hnc121:=NB252_242.out
      have hcz122_0:wr.cell? ⟨gb242,0,none⟩ = some (.slice A0_0 l0_0.length c0_0):=cz BK242 0
      have hcz122_1:wr.cell? ⟨gb242,1,none⟩ = some (.slice A0_1 l0_1.length c0_1):=cz BK242 1
      have hfz122_0:=blk_frozen BK242.out 0
      have hfz122_1:=blk_frozen BK242.out 1
      go_wp2
      go_loopg [53] k2 (fun kq v53 w'=>∃ (x53_3:Int) (x247000_3:List (S23)) (x251000_3:List Bool) (x253000_3:Int) (x253001_3:Int) (u247000:Value) (u251000:Value),v53 = .int .i64 x53_3 ∧ Aside0 (shares_net_fair.l2 kq x6_2 (l0_1.length:Int) x53_3 l0_0 l0_1 x247000_3 x251000_3 x253000_3 x253001_3 = some r) ∧ Aside0 (kq ≤ k2) ∧ Aside0 (Kd.R k23 23 w' w.heap.size (fun k_=>k_ ≠ gb252) u247000 x247000_3) ∧ Aside0 (Kd.R Kd.bool 4 w' w.heap.size (fun _=>True) u251000 x251000_3) ∧ Aside0 (w'.heap[gb242]? = some (.cells #[(.slice A0_0 l0_0.length c0_0),(.slice A0_1 l0_1.length c0_1)] 109 (0,0))) ∧ Aside0 (w'.heap[gb246]? = some (.cells #[u247000] 35 (0,0))) ∧ Aside0 (w'.heap[gb250]? = some (.cells #[u251000] 115 (0,0))) ∧ Aside0 (w'.heap[gb252]? = some (.cells #[.int .i64 x253000_3,.int .i64 x253001_3] 23 (0,0))) ∧ Aside0 (Below w.heap.size w w'))
      case atStart=>exact ⟨(0),(x247000_1),(x251000_1),(x253000_2),(x253001_2),(u247000),(.slice Ao26 x251000_1.length co26),rfl,H',⟨Nat.le_refl _⟩,⟨by exact HO_247000.out⟩,⟨by exact HO_251000.out⟩,⟨by exact BK242.out⟩,⟨by exact BK246.out⟩,⟨by exact BK250.out⟩,⟨by exact BK252.out⟩,⟨bl HB⟩⟩
      case round =>
       clear H'
       obtain ⟨x53_3,x247000_3,x251000_3,x253000_3,x253001_3,u247000,u251000,rfl,HA,HK3,HO_247000,HO_251000,BK242,BK246,BK250,BK252,HB⟩:=hrel
       cases gk with
       | zero=>exact absurd HA.out (by simp [shares_net_fair.l2])
       | succ k3 =>
        have H:=HA.out
        clear HA
        simp only [shares_net_fair.l2] at H
        by_cases c123:x53_3 < (l0_1.length:Int)
        case neg =>
         rw [if_neg c123] at H
         have c123b0:=decide_eq_false c123
         clear c123
         have H':=A_ H
         clear H
         go_wp2
         go_roundg k3
         case measure=>have:=HK1.out;have:=HK2.out;have:=HK3.out;omega
         case rel=>exact ⟨(x247000_3),(x251000_3),(u247000),(u251000),H',⟨by have:=HK1.out;have:=HK2.out;have:=HK3.out;omega⟩,⟨by exact Kd.R_mono HO_247000.out (fun _ hk=>trivial)⟩,⟨by exact HO_251000.out⟩,⟨by exact BK242.out⟩,⟨by exact BK246.out⟩,⟨by exact BK250.out⟩,⟨bl HB⟩⟩
        rw [if_pos c123] at H
        have c123b0:=decide_eq_true c123
        clear c123
        replace H:=gd H
        obtain ⟨c124,H⟩:=H
        have c124b0:=decide_eq_true c124
        clear c124
        replace H:=gd H
        obtain ⟨c125,H⟩:=H
        have c125b0:=decide_eq_true c125
        clear c125
        obtain ⟨bq126,hbq126⟩:∃ b_:Bool,b_ = (rdOf false x251000_3 x53_3):=⟨_,rfl⟩
        replace H:(if bq126 = true then (shares_net_fair.l2 k3 x6_2 (l0_1.length:Int) (wrap64 (x53_3 + 1)) l0_0 l0_1 x247000_3 x251000_3 x253000_3 x253001_3) else ((shares_net_has.f k3 l0_0 l0_1 x53_3 x6_2).bind fun t259=>(if t259 = true then (if x53_3 < (l0_1.length:Int) then ((shares_times.f k3 x253000_3 x253001_3 ((rd_T45 l0_1 x53_3).f0)).bind fun bt261=>(if x53_3 < (x247000_3.length:Int) then (shares_net_fair.l2 k3 x6_2 (l0_1.length:Int) (wrap64 (x53_3 + 1)) l0_0 l0_1 (x247000_3.set (x53_3:Int).toNat (⟨bt261.1,bt261.2⟩:S23)) (x251000_3.set (x53_3:Int).toNat true) x253000_3 x253001_3) else (none))) else (none)) else (shares_net_fair.l2 k3 x6_2 (l0_1.length:Int) (wrap64 (x53_3 + 1)) l0_0 l0_1 x247000_3 x251000_3 x253000_3 x253001_3)))) = some r:=by rw [← hbq126] at H;exact H
        have Nbq126:=A_ hbq126
        clear hbq126
        by_cases c127:bq126 = true
        ·subst c127
         rw [if_pos rfl] at H
         have H':=A_ H
         clear H
         have hnb128:=NB250_242.out
         have hnc128:=NB242_250.out
         have hnb129:=NB250_246.out
         have hnc129:=NB246_250.out
         have hnb130:=NB250_252.out
         have hnc130:=NB252_250.out
         have hcz131_0:wr.cell? ⟨gb250,0,none⟩ = some (u251000):=cz BK250 0
         have hfz131_0:=blk_frozen BK250.out 0
         obtain ⟨Ao132,co132,eo132⟩:=Kd.R_slice HO_251000.out
         subst eo132
         have p258:0 ≤ (x53_3:Int):=of_decide_eq_true (by assumption)
         have q258:x53_3 < (x251000_3.length:Int):=of_decide_eq_true (by assumption)
         obtain ⟨ad258,e258,hx258_0⟩:=Kd.at_bool (Kd.R_reads' HO_251000.out).2.2 x53_3 p258 q258
         (try rw [← Nbq126.out] at hx258_0)
         cases e258
         replace p258:=eq_true p258
         replace q258:=eq_true q258
         have hnb133:=NB246_242.out
         have hnc133:=NB242_246.out
         have hnb134:=NB246_252.out
         have hnc134:=NB252_246.out
         have hcz135_0:wr.cell? ⟨gb246,0,none⟩ = some (u247000):=cz BK246 0
         have hfz135_0:=blk_frozen BK246.out 0
         obtain ⟨Ao136,co136,eo136⟩:=Kd.R_slice HO_247000.out
         subst eo136
         go_wp2
         go_roundg k3
         case measure=>have:=HK1.out;have:=HK2.out;have:=HK3.out;omega
         case rel=>exact ⟨(wrap64 (x53_3 + 1)),(x247000_3),(x251000_3),(x253000_3),(x253001_3),(.slice Ao136 x247000_3.length co136),(.slice (some ad258) x251000_3.length co132),rfl,H',⟨by have:=HK1.out;have:=HK2.out;have:=HK3.out;omega⟩,⟨by exact HO_247000.out⟩,⟨by exact HO_251000.out⟩,⟨by exact BK242.out⟩,⟨by exact BK246.out⟩,⟨by exact BK250.out⟩,⟨by exact BK252.out⟩,⟨bl HB⟩⟩
        replace c127:=Bool.eq_false_iff.mpr c127
        subst c127
        rw [if_neg (show ¬ (false = true) by decide)] at H
        replace H:=Option.bind_eq_some_iff.mp H
        obtain ⟨t259,A1370,H⟩:=H
        replace H:(if t259 = true then (if x53_3 < (l0_1.length:Int) then ((shares_times.f k3 x253000_3 x253001_3 ((rd_T45 l0_1 x53_3).f0)).bind fun bt261=>(if x53_3 < (x247000_3.length:Int) then (shares_net_fair.l2 k3 x6_2 (l0_1.length:Int) (wrap64 (x53_3 + 1)) l0_0 l0_1 (x247000_3.set (x53_3:Int).toNat (⟨bt261.1,bt261.2⟩:S23)) (x251000_3.set (x53_3:Int).toNat true) x253000_3 x253001_3) else (none))) else (none)) else (shares_net_fair.l2 k3 x6_2 (l0_1.length:Int) (wrap64 (x53_3 + 1)) l0_0 l0_1 x247000_3 x251000_3 x253000_3 x253001_3)) = some r:=H
        have A137:=A_ A1370
        clear A1370
        by_cases c138:t259 = true
        case neg =>
         replace c138:=Bool.eq_false_iff.mpr c138
         subst c138
         rw [if_neg (show ¬ (false = true) by decide)] at H
         have H':=A_ H
         clear H
         have hnb163:=NB250_242.out
         have hnc163:=NB242_250.out
         have hnb164:=NB250_246.out
         have hnc164:=NB246_250.out
         have hnb165:=NB250_252.out
         have hnc165:=NB252_250.out
         have hcz166_0:wr.cell? ⟨gb250,0,none⟩ = some (u251000):=cz BK250 0
         have hfz166_0:=blk_frozen BK250.out 0
         obtain ⟨Ao167,co167,eo167⟩:=Kd.R_slice HO_251000.out
         subst eo167
         have p258:0 ≤ (x53_3:Int):=of_decide_eq_true (by assumption)
         have q258:x53_3 < (x251000_3.length:Int):=of_decide_eq_true (by assumption)
         obtain ⟨ad258,e258,hx258_0⟩:=Kd.at_bool (Kd.R_reads' HO_251000.out).2.2 x53_3 p258 q258
         (try rw [← Nbq126.out] at hx258_0)
         cases e258
         replace p258:=eq_true p258
         replace q258:=eq_true q258
         have hnb168:=NB242_246.out
         have hnc168:=NB246_242.out
         have hnb169:=NB242_252.out
         have hnc169:=NB252_242.out
         have hcz170_0:wr.cell? ⟨gb242,0,none⟩ = some (.slice A0_0 l0_0.length c0_0):=cz BK242 0
         have hcz170_1:wr.cell? ⟨gb242,1,none⟩ = some (.slice A0_1 l0_1.length c0_1):=cz BK242 1
         have hfz170_0:=blk_frozen BK242.out 0
         have hfz170_1:=blk_frozen BK242.out 1
         go_wp2_with (first | (go_at_call 104;(with_reducible refine (shares_net_has.calls k3 _ _ l0_0 _ _ l0_1 x53_3 x6_2 false _ ?side1 ?side2 ?side3 ?side4 A137.out).mono ?_);(case side1=>exact cB HR0_0 HB);(case side2=>exact HC0_0.out);(case side3=>exact cB HR0_1 HB);(case side4=>exact HC0_1.out);rintro e w171 ⟨rfl,hb⟩;replace HO_247000:=rB HO_247000 hb;replace HO_251000:=rB HO_251000 hb;replace BK242:=kB BK242 hb;replace BK246:=kB BK246 hb;replace BK250:=kB BK250 hb;replace BK252:=kB BK252 hb;replace HB:=bB HB hb;(try clear hb);have hcz172_0:w171.cell? ⟨gb250,0,none⟩ = some (.slice (some ad258) x251000_3.length co167):=cz BK250 0;have hfz172_0:=blk_frozen BK250.out 0;have hnb173:=NB246_252.out;have hnc173:=NB252_246.out;have hcz174_0:w171.cell? ⟨gb246,0,none⟩ = some (u247000):=cz BK246 0;have hfz174_0:=blk_frozen BK246.out 0;obtain ⟨Ao175,co175,eo175⟩:=Kd.R_slice HO_247000.out;subst eo175))
         go_roundg k3
         case measure=>have:=HK1.out;have:=HK2.out;have:=HK3.out;omega
         case rel=>exact ⟨(wrap64 (x53_3 + 1)),(x247000_3),(x251000_3),(x253000_3),(x253001_3),(.slice Ao175 x247000_3.length co175),(.slice (some ad258) x251000_3.length co167),rfl,H',⟨by have:=HK1.out;have:=HK2.out;have:=HK3.out;omega⟩,⟨by exact HO_247000.out⟩,⟨by exact HO_251000.out⟩,⟨by exact BK242.out⟩,⟨by exact BK246.out⟩,⟨by exact BK250.out⟩,⟨by exact BK252.out⟩,⟨bl HB⟩⟩
        subst c138
        rw [if_pos rfl] at H
        replace H:=gd H
        obtain ⟨c139,H⟩:=H
        have c139b0:=decide_eq_true c139
        clear c139
        replace H:=Option.bind_eq_some_iff.mp H
        obtain ⟨⟨t261,t262⟩,A1400,H⟩:=H
        dsimp only at H
        have A140:=A_ A1400
        clear A1400
        obtain ⟨y263,hy263⟩:∃ y_:List Bool,y_ = (x251000_3.set (x53_3:Int).toNat true):=⟨_,rfl⟩
        replace H:(if x53_3 < (x247000_3.length:Int) then (shares_net_fair.l2 k3 x6_2 (l0_1.length:Int) (wrap64 (x53_3 + 1)) l0_0 l0_1 (x247000_3.set (x53_3:Int).toNat (⟨t261,t262⟩:S23)) y263 x253000_3 x253001_3) else (none)) = some r:=by rw [hy263];exact H
        have Ny263:=A_ hy263
        clear hy263
        replace H:=gd H
        obtain ⟨c142,H⟩:=H
        have c142b0:=decide_eq_true c142
        clear c142
        obtain ⟨y264,hy264⟩:∃ y_:List (S23),y_ = (x247000_3.set (x53_3:Int).toNat (⟨t261,t262⟩:S23)):=⟨_,rfl⟩
        replace H:(shares_net_fair.l2 k3 x6_2 (l0_1.length:Int) (wrap64 (x53_3 + 1)) l0_0 l0_1 y264 y263 x253000_3 x253001_3) = some r:=by rw [hy264];exact H
        have Ny264:=A_ hy264
        clear hy264
        have H':=A_ H
        clear H
        have hnb144:=NB250_242.out
        have hnc144:=NB242_250.out
        have hnb145:=NB250_246.out
        have hnc145:=NB246_250.out
        have hnb146:=NB250_252.out
        have hnc146:=NB252_250.out
        have hcz147_0:wr.cell? ⟨gb250,0,none⟩ = some (u251000):=cz BK250 0
        have hfz147_0:=blk_frozen BK250.out 0
        obtain ⟨Ao148,co148,eo148⟩:=Kd.R_slice HO_251000.out
        subst eo148
        have p258:0 ≤ (x53_3:Int):=of_decide_eq_true (by assumption)
        have q258:x53_3 < (x251000_3.length:Int):=of_decide_eq_true (by assumption)
        obtain ⟨ad258,e258,hx258_0⟩:=Kd.at_bool (Kd.R_reads' HO_251000.out).2.2 x53_3 p258 q258
        (try rw [← Nbq126.out] at hx258_0)
        cases e258
        replace p258:=eq_true p258
        replace q258:=eq_true q258
        have hnb149:=NB242_246.out
        have hnc149:=NB246_242.out
        have hnb150:=NB242_252.out
        have hnc150:=NB252_242.out
        have hcz151_0:wr.cell? ⟨gb242,0,none⟩ = some (.slice A0_0 l0_0.length c0_0):=cz BK242 0
        have hcz151_1:wr.cell? ⟨gb242,1,none⟩ = some (.slice A0_1 l0_1.length c0_1):=cz BK242 1
        have hfz151_0:=blk_frozen BK242.out 0
        have hfz151_1:=blk_frozen BK242.out 1
        try go_wp2_with (first | (go_at_call 104;(with_reducible refine (shares_net_has.calls k3 _ _ l0_0 _ _ l0_1 x53_3 x6_2 true _ ?side1 ?side2 ?side3 ?side4 A137.out).mono ?_);(case side1=>exact cB HR0_0 HB);(case side2=>exact HC0_0.out);(case side3=>exact cB HR0_1 HB);(case side4=>exact HC0_1.out);rintro e w152 ⟨rfl,hb⟩;replace HO_247000:=rB HO_247000 hb;replace HO_251000:=rB HO_251000 hb;replace BK242:=kB BK242 hb;replace BK246:=kB BK246 hb;replace BK250:=kB BK250 hb;replace BK252:=kB BK252 hb;replace HB:=bB HB hb;(try clear hb);have hcz153_0:w152.cell? ⟨gb250,0,none⟩ = some (.slice (some ad258) x251000_3.length co148):=cz BK250 0;have hfz153_0:=blk_frozen BK250.out 0;have hnb154:=NB246_252.out;have hnc154:=NB252_246.out;have hcz155_0:w152.cell? ⟨gb246,0,none⟩ = some (u247000):=cz BK246 0;have hfz155_0:=blk_frozen BK246.out 0;obtain ⟨Ao156,co156,eo156⟩:=Kd.R_slice HO_247000.out;subst eo156))
        replace HO_247000:=rD HO_247000
        replace HO_251000:=rD HO_251000
        replace BK242:=kD BK242
        replace BK246:=kD BK246
        replace BK250:=kD BK250
        replace BK252:=kD BK252
        replace HB:=bD HB
        have p260:0 ≤ (x53_3:Int):=of_decide_eq_true (by assumption)
        have q260:x53_3 < (l0_1.length:Int):=of_decide_eq_true (by assumption)
        obtain ⟨ad260,A260_1,c260_1,e260,hx260_0,hx260_1,hl260_1,hi260_1⟩:=at_T45 HR0_1.out x53_3 p260 q260
        have hw260_1:=hx260_1
        have hw260_0:=hx260_0
        cases e260
        replace hx260_0:=(HB.out.cell (World.block_lt_of_cell? w _ hx260_0)).trans hx260_0
        replace hx260_1:=(HB.out.cell (World.block_lt_of_cell? w _ hx260_1)).trans hx260_1
        have HR260_1:=A_ hi260_1
        have HC260_1:=A_ hl260_1
        clear hi260_1 hl260_1
        replace p260:=eq_true p260
        replace q260:=eq_true q260
        refine start_ (n:=16) (S:=fun w'=>w'.cell? ⟨gb250,0,none⟩ = some (.slice (some ad258) x251000_3.length co148) ∧ w'.cell? ⟨gb252,0,none⟩ = some (.int .i64 x253000_3) ∧ w'.cell? ⟨gb252,1,none⟩ = some (.int .i64 x253001_3) ∧ w'.cell? ⟨gb242,0,none⟩ = some (.slice A0_0 l0_0.length c0_0) ∧ w'.cell? ⟨gb242,1,none⟩ = some (.slice (some ad260) l0_1.length c0_1) ∧ w'.cell? (ad260.add ((x53_3).toNat * 2)) = some (.int .i64 ((rd_T45 l0_1 x53_3).f0)) ∧ w'.cell? ⟨(ad260.add ((x53_3).toNat * 2)).block,(ad260.add ((x53_3).toNat * 2)).off + 1,none⟩ = some (.slice A260_1 ((rd_T45 l0_1 x53_3).f1).length c260_1) ∧ w'.cell? ⟨gb246,0,none⟩ = some (.slice Ao156 x247000_3.length co156)) (ds:=[15]) (ba 16 0) (by kernel_rfl) rfl rfl ⟨cz BK250 0,cz BK252 0,cz BK252 1,cz BK242 0,cz BK242 1,((HB.out.cell (World.block_lt_of_cell? w _ hw260_0)).trans hw260_0),((HB.out.cell (World.block_lt_of_cell? w _ hw260_1)).trans hw260_1),cz BK246 0⟩ (fun hHeld=>?_)
        generalize w152.drew = w157 at HO_247000 HO_251000 BK242 BK246 BK250 BK252 HB HR260_1 hx260_0 hx260_1 hHeld ⊢
        refine pr 3 70 8 ?_
        refine tr 2 69 12 hHeld ?_
        refine pr 1 68 14 ?_
        refine pr 5 72 46 ?_
        refine pr 7 74 174 ?_
        refine tr 0 67 175 hHeld ?_
        refine tr 4 71 191 hHeld ?_
        refine tr 6 73 255 hHeld ?_
        refine pr 8 75 511 ?_
        refine pr 9 76 1023 ?_
        refine tr 10 77 2047 hHeld ?_
        refine os 11 78 4095 (fun K hK=>?_)
        refine gq Try.func106 #[.agg #[.int .i64 x253000_3,.int .i64 x253001_3],.int .i64 ((rd_T45 l0_1 x53_3).f0)] ?_
        with_reducible refine (shares_times.calls k3 x253000_3 x253001_3 ((rd_T45 l0_1 x53_3).f0) t261 t262 _ A140.out).mono ?_
        rintro e w158 ⟨rfl,hb⟩
        refine ⟨_,rfl,?_⟩
        replace HO_247000:=rB HO_247000 hb
        replace HO_251000:=rB HO_251000 hb
        replace BK242:=kB BK242 hb
        replace BK246:=kB BK246 hb
        replace BK250:=kB BK250 hb
        replace BK252:=kB BK252 hb
        replace HB:=bB HB hb
        (try clear hb)
        have p141:0 ≤ (x53_3:Int):=of_decide_eq_true (by assumption)
        have q141:(x53_3:Int) < ((x251000_3.length:Int):Int):=of_decide_eq_true (by assumption)
        obtain ⟨go141,co141,eo141,gb141,gl141,cl141,HG141⟩:=Kd.R_form HO_251000.out (by omega)
        (first | cases eo141 | (injection eo141 with ea_ en_ ec_;(first | subst ea_ | (injection ea_ with ea_;subst ea_));subst ec_;clear en_))
        have GB141:=A_ gb141
        have GG141:=A_ HG141
        clear gb141 gl141 HG141
        (first | simp only [add_plain] at hx258_0 | skip)
        obtain ⟨hx141_0,hf141_0⟩:=Kd.R_celln false HO_251000.out (x53_3:Int) p141 q141
        replace p141:=eq_true p141
        replace q141:=eq_true q141
        have HP159:=Kd.R_putn HO_251000.out (x53_3:Int) true
        rw [← Ny263.out] at HP159
        have HQ159:=A_ HP159
        clear HP159
        refine hK.out _ _ ⟨cz BK250 0,cz BK252 0,cz BK252 1,cz BK242 0,cz BK242 1,((HB.out.cell (World.block_lt_of_cell? w _ hw260_0)).trans hw260_0),((HB.out.cell (World.block_lt_of_cell? w _ hw260_1)).trans hw260_1),cz BK246 0⟩ (fun hHeld=>?_)
        clear hK K
        refine nq 78 ?_
        refine pr 12 79 8191 ?_
        refine one_ (i:=13) (N:=none) (ba 16 16383) rfl rfl (by kernel_rfl) (by decide) (fun K hK=>?_)
        refine skip_ (w1:=?_) (by rfl) rfl ?_ ?_
        rotate_left
        ·go_simp
         rfl
        have n0_:Aside0 (Kd.R k23 23 (w158.setCell ⟨go141,(x53_3:Int).toNat,none⟩ (.bool true)) w.heap.size (fun k_=>k_ ≠ gb252) (.slice Ao156 x247000_3.length co156) x247000_3):=⟨by exact Kd.R_mono (Kd.R_far (p:=⟨go141,(x53_3:Int).toNat,none⟩) (Kd.R_types HO_247000.out GG141.out (by decide)) (fun _ hk=>hk.2) (.bool true)) (fun _ hk=>hk.1)⟩
        have n1_:Aside0 (Kd.R Kd.bool 4 (w158.setCell ⟨go141,(x53_3:Int).toNat,none⟩ (.bool true)) w.heap.size (fun _=>True) (.slice (some ⟨go141,0,none⟩) x251000_3.length co148) y263):=⟨by exact HQ159.out⟩
        have n2_:Aside0 ((w158.setCell ⟨go141,(x53_3:Int).toNat,none⟩ (.bool true)).heap[gb242]? = some (.cells #[.slice A0_0 l0_0.length c0_0,.slice (some ad260) l0_1.length c0_1] 109 (0,0))):=⟨by refine blk_far ?_ (by have h_:=Kd.R_ne HO_251000.out BK242.out (by decide);intro e_;exact h_ (by rw [e_];rfl)) _;exact BK242.out⟩
        have n3_:Aside0 ((w158.setCell ⟨go141,(x53_3:Int).toNat,none⟩ (.bool true)).heap[gb246]? = some (.cells #[.slice Ao156 x247000_3.length co156] 35 (0,0))):=⟨by refine blk_far ?_ (by have h_:=Kd.R_ne HO_251000.out BK246.out (by decide);intro e_;exact h_ (by rw [e_];rfl)) _;exact BK246.out⟩
        have n4_:Aside0 ((w158.setCell ⟨go141,(x53_3:Int).toNat,none⟩ (.bool true)).heap[gb250]? = some (.cells #[.slice (some ⟨go141,0,none⟩) x251000_3.length co148] 115 (0,0))):=⟨by refine blk_far ?_ (by have h_:=Kd.R_ne HO_251000.out BK250.out (by decide);intro e_;exact h_ (by rw [e_];rfl)) _;exact BK250.out⟩
        have n5_:Aside0 ((w158.setCell ⟨go141,(x53_3:Int).toNat,none⟩ (.bool true)).heap[gb252]? = some (.cells #[.int .i64 x253000_3,.int .i64 x253001_3] 23 (0,0))):=⟨by refine blk_far ?_ (by have h_:=Kd.R_ne HO_251000.out BK252.out (by decide);intro e_;exact h_ (by rw [e_];rfl)) _;exact BK252.out⟩
        have n6_:Aside0 (Below w.heap.size w (w158.setCell ⟨go141,(x53_3:Int).toNat,none⟩ (.bool true))):=⟨bl HB⟩
        generalize (w158.setCell ⟨go141,(x53_3:Int).toNat,none⟩ (.bool true)) = w160 at n0_ n1_ n2_ n3_ n4_ n5_ n6_ ⊢
        have HO_247000:=n0_
        have HO_251000:=n1_
        have BK242:=n2_
        have BK246:=n3_
        have BK250:=n4_
        have BK252:=n5_
        have HB:=n6_
        clear n0_ n1_ n2_ n3_ n4_ n5_ n6_
        refine hK.out _ _ ⟨cz BK250 0,cz BK252 0,cz BK252 1,cz BK242 0,cz BK242 1,((HB.out.cell (World.block_lt_of_cell? w _ hw260_0)).trans hw260_0),((HB.out.cell (World.block_lt_of_cell? w _ hw260_1)).trans hw260_1),cz BK246 0⟩ (fun hHeld=>?_)
        clear hK K
        have p143:0 ≤ (x53_3:Int):=of_decide_eq_true (by assumption)
        have q143:(x53_3:Int) < ((x247000_3.length:Int):Int):=of_decide_eq_true (by assumption)
        obtain ⟨go143,co143,eo143,gb143,gl143,cl143,HG143⟩:=Kd.R_form HO_247000.out (by omega)
        (first | cases eo143 | (injection eo143 with ea_ en_ ec_;(first | subst ea_ | (injection ea_ with ea_;subst ea_));subst ec_;clear en_))
        have GB143:=A_ gb143
        have GG143:=A_ HG143
        clear gb143 gl143 HG143
        obtain ⟨ce143,hcl143,hM143,hcc143,hfr143⟩:=Kd.R_elem HO_247000.out z23 (x53_3:Int) p143 q143
        obtain rfl:=k23_openM hM143
        have hx143_0:World.cell? _ ⟨go143,(x53_3:Int).toNat * 2,none⟩ = some (.int .i64 ((rd_T23 x247000_3 x53_3).f0)):=hcc143 0 _ rfl
        have hx143_1:World.cell? _ ⟨go143,(x53_3:Int).toNat * 2 + 1,none⟩ = some (.int .i64 ((rd_T23 x247000_3 x53_3).f1)):=hcc143 1 _ rfl
        have hf143_0:World.frozen? _ ⟨go143,(x53_3:Int).toNat * 2,none⟩ = false:=hfr143 0
        have hf143_1:World.frozen? _ ⟨go143,(x53_3:Int).toNat * 2 + 1,none⟩ = false:=hfr143 1
        clear hcl143 hcc143 hfr143 hM143
        replace p143:=eq_true p143
        replace q143:=eq_true q143
        obtain ⟨ce162,hcl162,hM162,hcc162,hfr162⟩:=Kd.R_elem HO_247000.out z23 (x53_3:Int) (of_decide_eq_true (by assumption)) (by have h_:(x53_3:Int) < ((x247000_3.length:Int):Int):=of_decide_eq_true (by assumption);first | exact h_ | (have e_:=(Kd.R_reads' HO_247000.out).1;omega) | simpa using h_)
        obtain rfl:=k23_openM hM162
        have HP162:=(Kd.R_seg HO_247000.out (x53_3:Int) (of_decide_eq_true (by assumption)) (by have h_:(x53_3:Int) < ((x247000_3.length:Int):Int):=of_decide_eq_true (by assumption);first | exact h_ | (have e_:=(Kd.R_reads' HO_247000.out).1;omega) | simpa using h_) (seg:=[.int .i64 t261,.int .i64 t262]) (j:=0) hcl162 hcc162 (show 2 ≤ 2 from by decide) (x':=(⟨t261,t262⟩:S23)) (k23_mkM _ _ _ (⟨t261,t262⟩:S23) ) (fun _ hk=>hk)).1
        rw [← Ny264.out] at HP162
        have HQ162:=A_ HP162
        clear hcl162 hcc162 hfr162 hM162 HP162
        refine pr 14 80 32767 ?_
        refine last_ (i:=15) (N:=none) (ba 16 65535) rfl rfl (by kernel_rfl) (by decide) (fun K hK=>?_)
        refine skip_ (w1:=?_) (by rfl) rfl ?_ ?_
        rotate_left
        ·go_simp
         rfl
        refine hK.out _ _ ?_
        clear hK K
        refine done_ (by kernel_rfl) ?_
        try go_wp2
        go_roundg k3
        case measure=>have:=HK1.out;have:=HK2.out;have:=HK3.out;omega
        case rel=>exact ⟨(wrap64 (x53_3 + 1)),(y264),(y263),(x253000_3),(x253001_3),(.slice (some ⟨go143,0,none⟩) x247000_3.length co156),(.slice (some ⟨go141,0,none⟩) x251000_3.length co148),rfl,H',⟨by have:=HK1.out;have:=HK2.out;have:=HK3.out;omega⟩,⟨by exact HQ162.out⟩,⟨by exact Kd.R_mono (Kd.R_far (p:=⟨go143,(x53_3:Int).toNat * 2 + 1,none⟩) (Kd.R_far (p:=⟨go143,(x53_3:Int).toNat * 2,none⟩) (Kd.R_types HO_251000.out GG143.out (by decide)) (fun _ hk=>hk.2) (.int .i64 t261)) (fun _ hk=>hk.2) (.int .i64 t262)) (fun _ hk=>trivial)⟩,⟨by refine blk_far ?_ (by have h_:=Kd.R_ne HO_247000.out BK242.out (by decide);intro e_;exact h_ (by rw [e_];rfl)) _;refine blk_far ?_ (by have h_:=Kd.R_ne HO_247000.out BK242.out (by decide);intro e_;exact h_ (by rw [e_];rfl)) _;exact BK242.out⟩,⟨by refine blk_far ?_ (by have h_:=Kd.R_ne HO_247000.out BK246.out (by decide);intro e_;exact h_ (by rw [e_];rfl)) _;refine blk_far ?_ (by have h_:=Kd.R_ne HO_247000.out BK246.out (by decide);intro e_;exact h_ (by rw [e_];rfl)) _;exact BK246.out⟩,⟨by refine blk_far ?_ (by have h_:=Kd.R_ne HO_247000.out BK250.out (by decide);intro e_;exact h_ (by rw [e_];rfl)) _;refine blk_far ?_ (by have h_:=Kd.R_ne HO_247000.out BK250.out (by decide);intro e_;exact h_ (by rw [e_];rfl)) _;exact BK250.out⟩,⟨by refine blk_far ?_ (by have h_:=Kd.R_away HO_247000.out (fun _ hk=>hk);intro e_;exact h_ (by rw [e_];rfl)) _;refine blk_far ?_ (by have h_:=Kd.R_away HO_247000.out (fun _ hk=>hk);intro e_;exact h_ (by rw [e_];rfl)) _;exact BK252.out⟩,⟨bl HB⟩⟩
     rw [if_pos c34] at H
     have c34b0:=decide_eq_true c34
     clear c34
     replace H:=Option.bind_eq_some_iff.mp H
     obtain ⟨⟨t253,t254,t255⟩,A350,H⟩:=H
     dsimp only at H
     have A35:=A_ A350
     clear A350
     by_cases c36:t255 = true
     case neg =>
      replace c36:=Bool.eq_false_iff.mpr c36
      subst c36
      rw [if_neg (show ¬ (false = true) by decide)] at H
      have H':=A_ H
      clear H
      have hnb102:=NB246_242.out
      have hnc102:=NB242_246.out
      have hnb103:=NB246_250.out
      have hnc103:=NB250_246.out
      have hnb104:=NB246_252.out
      have hnc104:=NB252_246.out
      have hcz105_0:wr.cell? ⟨gb246,0,none⟩ = some (u247000):=cz BK246 0
      have hfz105_0:=blk_frozen BK246.out 0
      have hnb106:=NB250_242.out
      have hnc106:=NB242_250.out
      have hnb107:=NB250_252.out
      have hnc107:=NB252_250.out
      have hcz108_0:wr.cell? ⟨gb250,0,none⟩ = some (.slice Ao26 x251000_1.length co26):=cz BK250 0
      have hfz108_0:=blk_frozen BK250.out 0
      have hnb109:=NB242_252.out
      have hnc109:=NB252_242.out
      have hcz110_0:wr.cell? ⟨gb242,0,none⟩ = some (.slice A0_0 l0_0.length c0_0):=cz BK242 0
      have hcz110_1:wr.cell? ⟨gb242,1,none⟩ = some (.slice A0_1 l0_1.length c0_1):=cz BK242 1
      have hfz110_0:=blk_frozen BK242.out 0
      have hfz110_1:=blk_frozen BK242.out 1
      obtain ⟨Ao111,co111,eo111⟩:=Kd.R_slice HO_247000.out
      subst eo111
      go_wp2_with (first | (go_at_call 103;(with_reducible refine (shares_net_fair_1.calls k2 x27_2 _ _ l0_0 _ _ l0_1 _ _ x251000_1 _ _ x247000_1 t253 t254 false _ gb242 gb250 gb246 BK242.out BK250.out BK246.out NB242_250.out NB242_246.out NB250_246.out ?side1 ?side2 ?side3 ?side4 ?side5 ?side6 ?side7 ?side8 A35.out).mono ?_);(case side1=>exact cB HR0_0 HB);(case side2=>exact HC0_0.out);(case side3=>exact cB HR0_1 HB);(case side4=>exact HC0_1.out);(case side5=>repeat (first | exact (Kd.R_reads' HO_251000.out).2.2 | (with_reducible refine Kd.C_alloc ?_ _) | (with_reducible refine Kd.C_drewN ?_ _) | (with_reducible refine Kd.C_drew ?_)));(case side6=>exact (Kd.R_reads' HO_251000.out).2.1);(case side7=>repeat (first | exact (Kd.R_reads' HO_247000.out).2.2 | (with_reducible refine Kd.C_alloc ?_ _) | (with_reducible refine Kd.C_drewN ?_ _) | (with_reducible refine Kd.C_drew ?_)));(case side8=>exact (Kd.R_reads' HO_247000.out).2.1);rintro e w112 ⟨rfl,hb⟩;replace HO_247000:=rB HO_247000 hb;replace HO_251000:=rB HO_251000 hb;replace BK242:=kB BK242 hb;replace BK246:=kB BK246 hb;replace BK250:=kB BK250 hb;replace BK252:=kB BK252 hb;replace HB:=bB HB hb;(try clear hb)) | ((with_reducible refine gate_dst (N:=9) rfl ?_);refine bx 9 #[.int .i64 0,.int .i64 0] 23 ?_;intro gb256 hg w113 hbox hb;have BK256:=A_ hbox;have GW256:=gw hg HB;have GE256:=GW256;have NB242_256:=nl hg BK242;have NB256_242:=ng hg BK242;have NB246_256:=nl hg BK246;have NB256_246:=ng hg BK246;have NB250_256:=nl hg BK250;have NB256_250:=ng hg BK250;have NB252_256:=nl hg BK252;have NB256_252:=ng hg BK252;replace HO_247000:=A_ (Kd.R_below (Kd.R_elderB HO_247000.out gb256 (Nat.le_of_eq hg.symm)) hb);replace HO_251000:=rB HO_251000 hb;replace BK242:=kB BK242 hb;replace BK246:=kB BK246 hb;replace BK250:=kB BK250 hb;replace BK252:=kB BK252 hb;replace HB:=bB HB hb;clear hb hbox hg;have hnb114:=NB256_242.out;have hnc114:=NB242_256.out;have hnb115:=NB256_246.out;have hnc115:=NB246_256.out;have hnb116:=NB256_250.out;have hnc116:=NB250_256.out;have hnb117:=NB256_252.out;have hnc117:=NB252_256.out;have hcz118_0:w113.cell? ⟨gb256,0,none⟩ = some (.int .i64 0):=cz BK256 0;have hcz118_1:w113.cell? ⟨gb256,1,none⟩ = some (.int .i64 0):=cz BK256 1;have hfz118_0:=blk_frozen BK256.out 0;have hfz118_1:=blk_frozen BK256.out 1))
      go_roundg k2
      case measure=>have:=HK1.out;have:=HK2.out;omega
      case rel=>exact ⟨(x6_2),(wrap64 (x27_2 + 1)),(x253000_2),(x253001_2),rfl,rfl,H',⟨by have:=HK1.out;have:=HK2.out;omega⟩,⟨by exact Kd.R_mono (Kd.R_far (p:=⟨gb256,1,none⟩) (Kd.R_far (p:=⟨gb256,0,none⟩) (Kd.R_mono HO_247000.out (fun k_ hk=>(⟨hk,hk.2⟩:_ ∧ k_ ≠ gb256))) (fun _ hk=>hk.2) (.int .i64 t253)) (fun _ hk=>hk.2) (.int .i64 t254)) (fun _ hk=>hk.1.1)⟩,⟨by exact Kd.R_mono (Kd.R_far (p:=⟨gb256,1,none⟩) (Kd.R_far (p:=⟨gb256,0,none⟩) (Kd.R_types HO_251000.out BK256.out (by decide)) (fun _ hk=>hk.2) (.int .i64 t253)) (fun _ hk=>hk.2) (.int .i64 t254)) (fun _ hk=>trivial)⟩,⟨by refine blk_far ?_ NB242_256.out _;refine blk_far ?_ NB242_256.out _;exact BK242.out⟩,⟨by refine blk_far ?_ NB246_256.out _;refine blk_far ?_ NB246_256.out _;exact BK246.out⟩,⟨by refine blk_far ?_ NB250_256.out _;refine blk_far ?_ NB250_256.out _;exact BK250.out⟩,⟨by refine blk_far ?_ NB252_256.out _;refine blk_far ?_ NB252_256.out _;exact BK252.out⟩,⟨bl HB⟩⟩
     subst c36
     rw [if_pos rfl] at H
     by_cases c37:x6_2 < 0
     ·rw [if_pos c37] at H
      have c37b0:=decide_eq_true c37
      clear c37
      have H':=A_ H
      clear H
      have hnb38:=NB246_242.out
      have hnc38:=NB242_246.out
      have hnb39:=NB246_250.out
      have hnc39:=NB250_246.out
      have hnb40:=NB246_252.out
      have hnc40:=NB252_246.out
      have hcz41_0:wr.cell? ⟨gb246,0,none⟩ = some (u247000):=cz BK246 0
      have hfz41_0:=blk_frozen BK246.out 0
      have hnb42:=NB250_242.out
      have hnc42:=NB242_250.out
      have hnb43:=NB250_252.out
      have hnc43:=NB252_250.out
      have hcz44_0:wr.cell? ⟨gb250,0,none⟩ = some (.slice Ao26 x251000_1.length co26):=cz BK250 0
      have hfz44_0:=blk_frozen BK250.out 0
      have hnb45:=NB242_252.out
      have hnc45:=NB252_242.out
      have hcz46_0:wr.cell? ⟨gb242,0,none⟩ = some (.slice A0_0 l0_0.length c0_0):=cz BK242 0
      have hcz46_1:wr.cell? ⟨gb242,1,none⟩ = some (.slice A0_1 l0_1.length c0_1):=cz BK242 1
      have hfz46_0:=blk_frozen BK242.out 0
      have hfz46_1:=blk_frozen BK242.out 1
      obtain ⟨Ao47,co47,eo47⟩:=Kd.R_slice HO_247000.out
      subst eo47
      try go_wp2_with (first | (go_at_call 103;(with_reducible refine (shares_net_fair_1.calls k2 x27_2 _ _ l0_0 _ _ l0_1 _ _ x251000_1 _ _ x247000_1 t253 t254 true _ gb242 gb250 gb246 BK242.out BK250.out BK246.out NB242_250.out NB242_246.out NB250_246.out ?side1 ?side2 ?side3 ?side4 ?side5 ?side6 ?side7 ?side8 A35.out).mono ?_);(case side1=>exact cB HR0_0 HB);(case side2=>exact HC0_0.out);(case side3=>exact cB HR0_1 HB);(case side4=>exact HC0_1.out);(case side5=>repeat (first | exact (Kd.R_reads' HO_251000.out).2.2 | (with_reducible refine Kd.C_alloc ?_ _) | (with_reducible refine Kd.C_drewN ?_ _) | (with_reducible refine Kd.C_drew ?_)));(case side6=>exact (Kd.R_reads' HO_251000.out).2.1);(case side7=>repeat (first | exact (Kd.R_reads' HO_247000.out).2.2 | (with_reducible refine Kd.C_alloc ?_ _) | (with_reducible refine Kd.C_drewN ?_ _) | (with_reducible refine Kd.C_drew ?_)));(case side8=>exact (Kd.R_reads' HO_247000.out).2.1);rintro e w48 ⟨rfl,hb⟩;replace HO_247000:=rB HO_247000 hb;replace HO_251000:=rB HO_251000 hb;replace BK242:=kB BK242 hb;replace BK246:=kB BK246 hb;replace BK250:=kB BK250 hb;replace BK252:=kB BK252 hb;replace HB:=bB HB hb;(try clear hb)) | ((with_reducible refine gate_dst (N:=9) rfl ?_);refine bx 9 #[.int .i64 0,.int .i64 0] 23 ?_;intro gb256 hg w49 hbox hb;have BK256:=A_ hbox;have GW256:=gw hg HB;have GE256:=GW256;have NB242_256:=nl hg BK242;have NB256_242:=ng hg BK242;have NB246_256:=nl hg BK246;have NB256_246:=ng hg BK246;have NB250_256:=nl hg BK250;have NB256_250:=ng hg BK250;have NB252_256:=nl hg BK252;have NB256_252:=ng hg BK252;replace HO_247000:=A_ (Kd.R_below (Kd.R_elderB HO_247000.out gb256 (Nat.le_of_eq hg.symm)) hb);replace HO_251000:=rB HO_251000 hb;replace BK242:=kB BK242 hb;replace BK246:=kB BK246 hb;replace BK250:=kB BK250 hb;replace BK252:=kB BK252 hb;replace HB:=bB HB hb;clear hb hbox hg;have hnb50:=NB256_242.out;have hnc50:=NB242_256.out;have hnb51:=NB256_246.out;have hnc51:=NB246_256.out;have hnb52:=NB256_250.out;have hnc52:=NB250_256.out;have hnb53:=NB256_252.out;have hnc53:=NB252_256.out;have hcz54_0:w49.cell? ⟨gb256,0,none⟩ = some (.int .i64 0):=cz BK256 0;have hcz54_1:w49.cell? ⟨gb256,1,none⟩ = some (.int .i64 0):=cz BK256 1;have hfz54_0:=blk_frozen BK256.out 0;have hfz54_1:=blk_frozen BK256.out 1))
      have n0_:Aside0 (Kd.R k23 23 ((w49.setCell ⟨gb256,0,none⟩ (.int .i64 t253)).setCell ⟨gb256,1,none⟩ (.int .i64 t254)) w.heap.size (fun k_=>k_ ≠ gb252 ∧ k_ ≠ gb256) (.slice Ao47 x247000_1.length co47) x247000_1):=⟨by exact Kd.R_mono (Kd.R_far (p:=⟨gb256,1,none⟩) (Kd.R_far (p:=⟨gb256,0,none⟩) (Kd.R_mono HO_247000.out (fun k_ hk=>(⟨hk,hk.2⟩:_ ∧ k_ ≠ gb256))) (fun _ hk=>hk.2) (.int .i64 t253)) (fun _ hk=>hk.2) (.int .i64 t254)) (fun _ hk=>⟨hk.1.1,hk.1.2⟩)⟩
      have n1_:Aside0 (Kd.R Kd.bool 4 ((w49.setCell ⟨gb256,0,none⟩ (.int .i64 t253)).setCell ⟨gb256,1,none⟩ (.int .i64 t254)) w.heap.size (fun _=>True) (.slice Ao26 x251000_1.length co26) x251000_1):=⟨by exact Kd.R_mono (Kd.R_far (p:=⟨gb256,1,none⟩) (Kd.R_far (p:=⟨gb256,0,none⟩) (Kd.R_types HO_251000.out BK256.out (by decide)) (fun _ hk=>hk.2) (.int .i64 t253)) (fun _ hk=>hk.2) (.int .i64 t254)) (fun _ hk=>trivial)⟩
      have n2_:Aside0 (((w49.setCell ⟨gb256,0,none⟩ (.int .i64 t253)).setCell ⟨gb256,1,none⟩ (.int .i64 t254)).heap[gb242]? = some (.cells #[.slice A0_0 l0_0.length c0_0,.slice A0_1 l0_1.length c0_1] 109 (0,0))):=⟨by refine blk_far ?_ NB242_256.out _;refine blk_far ?_ NB242_256.out _;exact BK242.out⟩
      have n3_:Aside0 (((w49.setCell ⟨gb256,0,none⟩ (.int .i64 t253)).setCell ⟨gb256,1,none⟩ (.int .i64 t254)).heap[gb246]? = some (.cells #[.slice Ao47 x247000_1.length co47] 35 (0,0))):=⟨by refine blk_far ?_ NB246_256.out _;refine blk_far ?_ NB246_256.out _;exact BK246.out⟩
      have n4_:Aside0 (((w49.setCell ⟨gb256,0,none⟩ (.int .i64 t253)).setCell ⟨gb256,1,none⟩ (.int .i64 t254)).heap[gb250]? = some (.cells #[.slice Ao26 x251000_1.length co26] 115 (0,0))):=⟨by refine blk_far ?_ NB250_256.out _;refine blk_far ?_ NB250_256.out _;exact BK250.out⟩
      have n5_:Aside0 (((w49.setCell ⟨gb256,0,none⟩ (.int .i64 t253)).setCell ⟨gb256,1,none⟩ (.int .i64 t254)).heap[gb252]? = some (.cells #[.int .i64 x253000_2,.int .i64 x253001_2] 23 (0,0))):=⟨by refine blk_far ?_ NB252_256.out _;refine blk_far ?_ NB252_256.out _;exact BK252.out⟩
      have n6_:Aside0 (((w49.setCell ⟨gb256,0,none⟩ (.int .i64 t253)).setCell ⟨gb256,1,none⟩ (.int .i64 t254)).heap[gb256]? = some (.cells #[.int .i64 t253,.int .i64 t254] 23 (0,0))):=⟨by refine blk_put (cs:=#[.int .i64 t253,.int .i64 0]) ?_ 1 _ rfl;refine blk_put (cs:=#[.int .i64 0,.int .i64 0]) ?_ 0 _ rfl;exact BK256.out⟩
      have n7_:Aside0 (Below w.heap.size w ((w49.setCell ⟨gb256,0,none⟩ (.int .i64 t253)).setCell ⟨gb256,1,none⟩ (.int .i64 t254))):=⟨bl HB⟩
      generalize ((w49.setCell ⟨gb256,0,none⟩ (.int .i64 t253)).setCell ⟨gb256,1,none⟩ (.int .i64 t254)) = w55 at n0_ n1_ n2_ n3_ n4_ n5_ n6_ n7_ ⊢
      have HO_247000:=n0_
      have HO_251000:=n1_
      have BK242:=n2_
      have BK246:=n3_
      have BK250:=n4_
      have BK252:=n5_
      have BK256:=n6_
      have HB:=n7_
      clear n0_ n1_ n2_ n3_ n4_ n5_ n6_ n7_
      replace HO_247000:=rD HO_247000
      replace HO_251000:=rD HO_251000
      replace BK242:=kD BK242
      replace BK246:=kD BK246
      replace BK250:=kD BK250
      replace BK252:=kD BK252
      replace BK256:=kD BK256
      replace HB:=bD HB
      refine start_ (n:=4) (S:=fun w'=>w'.cell? ⟨gb256,0,none⟩ = some (.int .i64 t253) ∧ w'.cell? ⟨gb256,1,none⟩ = some (.int .i64 t254)) (ds:=[]) (ba 4 0) (by kernel_rfl) rfl rfl ⟨cz BK256 0,cz BK256 1⟩ (fun hHeld=>?_)
      generalize w55.drew = w56 at HO_247000 HO_251000 BK242 BK246 BK250 BK252 BK256 HB hHeld ⊢
      refine pr 0 47 1 ?_
      refine pr 2 6 5 ?_
      refine tr 1 48 7 hHeld ?_
      refine one_ (i:=3) (N:=none) (ba 4 15) rfl rfl (by kernel_rfl) (by decide) (fun K hK=>?_)
      have hs57:w56.cell? ⟨gb252,0,none⟩ = some (.int .i64 x253000_2):=cz BK252 0
      have hfs57:=blk_frozen BK252.out 0
      have hns57_0:=NB242_252.out
      have hns57_1:=NB246_252.out
      have hns57_2:=NB250_252.out
      have hns57_4:=NB256_252.out
      have hms57_0:=NB252_242.out
      have hms57_1:=NB252_246.out
      have hms57_2:=NB252_250.out
      have hms57_4:=NB252_256.out
      have hs58:w56.cell? ⟨gb252,1,none⟩ = some (.int .i64 x253001_2):=cz BK252 1
      have hfs58:=blk_frozen BK252.out 1
      have hns58_0:=NB242_252.out
      have hns58_1:=NB246_252.out
      have hns58_2:=NB250_252.out
      have hns58_4:=NB256_252.out
      have hms58_0:=NB252_242.out
      have hms58_1:=NB252_246.out
      have hms58_2:=NB252_250.out
      have hms58_4:=NB252_256.out
      refine skip_ (w1:=?_) (by rfl) rfl ?_ ?_
      rotate_left
      ·go_simp
       rfl
      refine hK.out _ _ ⟨((cell_far (p:=⟨gb252,_,none⟩) NB256_252.out _).trans (((cell_far (p:=⟨gb252,_,none⟩) NB256_252.out _).trans (hHeld.1)))),((cell_far (p:=⟨gb252,_,none⟩) NB256_252.out _).trans (((cell_far (p:=⟨gb252,_,none⟩) NB256_252.out _).trans (hHeld.2))))⟩ (fun hHeld=>?_)
      clear hK K
      refine done_ (by kernel_rfl) ?_
      try go_wp2
      go_roundg k2
      case measure=>have:=HK1.out;have:=HK2.out;omega
      case rel=>exact ⟨(x27_2),(wrap64 (x27_2 + 1)),(t253),(t254),rfl,rfl,H',⟨by have:=HK1.out;have:=HK2.out;omega⟩,⟨by exact Kd.R_mono (Kd.R_far (p:=⟨gb252,1,none⟩) (Kd.R_far (p:=⟨gb252,0,none⟩) (Kd.R_mono HO_247000.out (fun k_ hk=>(⟨hk,hk.1⟩:_ ∧ k_ ≠ gb252))) (fun _ hk=>hk.2) (.int .i64 t253)) (fun _ hk=>hk.2) (.int .i64 t254)) (fun _ hk=>hk.1.1)⟩,⟨by exact Kd.R_mono (Kd.R_far (p:=⟨gb252,1,none⟩) (Kd.R_far (p:=⟨gb252,0,none⟩) (Kd.R_types HO_251000.out BK252.out (by decide)) (fun _ hk=>hk.2) (.int .i64 t253)) (fun _ hk=>hk.2) (.int .i64 t254)) (fun _ hk=>trivial)⟩,⟨by refine blk_far ?_ NB242_252.out _;refine blk_far ?_ NB242_252.out _;exact BK242.out⟩,⟨by refine blk_far ?_ NB246_252.out _;refine blk_far ?_ NB246_252.out _;exact BK246.out⟩,⟨by refine blk_far ?_ NB250_252.out _;refine blk_far ?_ NB250_252.out _;exact BK250.out⟩,⟨by refine blk_put (cs:=#[.int .i64 t253,.int .i64 x253001_2]) ?_ 1 _ rfl;refine blk_put (cs:=#[.int .i64 x253000_2,.int .i64 x253001_2]) ?_ 0 _ rfl;exact BK252.out⟩,⟨bl HB⟩⟩
     rw [if_neg c37] at H
     have c37b0:=decide_eq_false c37
     clear c37
     replace H:=Option.bind_eq_some_iff.mp H
     obtain ⟨t257,A590,H⟩:=H
     replace H:(if t257 < 0 then (shares_net_fair.l1 k2 x27_2 (l0_0.length:Int) (wrap64 (x27_2 + 1)) l0_0 l0_1 x247000_1 x251000_1 t253 t254) else (shares_net_fair.l1 k2 x6_2 (l0_0.length:Int) (wrap64 (x27_2 + 1)) l0_0 l0_1 x247000_1 x251000_1 x253000_2 x253001_2)) = some r:=H
     have A59:=A_ A590
     clear A590
     by_cases c60:t257 < 0
     case neg =>
      rw [if_neg c60] at H
      have c60b0:=decide_eq_false c60
      clear c60
      have H':=A_ H
      clear H
      have hnb83:=NB246_242.out
      have hnc83:=NB242_246.out
      have hnb84:=NB246_250.out
      have hnc84:=NB250_246.out
      have hnb85:=NB246_252.out
      have hnc85:=NB252_246.out
      have hcz86_0:wr.cell? ⟨gb246,0,none⟩ = some (u247000):=cz BK246 0
      have hfz86_0:=blk_frozen BK246.out 0
      have hnb87:=NB250_242.out
      have hnc87:=NB242_250.out
      have hnb88:=NB250_252.out
      have hnc88:=NB252_250.out
      have hcz89_0:wr.cell? ⟨gb250,0,none⟩ = some (.slice Ao26 x251000_1.length co26):=cz BK250 0
      have hfz89_0:=blk_frozen BK250.out 0
      have hnb90:=NB242_252.out
      have hnc90:=NB252_242.out
      have hcz91_0:wr.cell? ⟨gb242,0,none⟩ = some (.slice A0_0 l0_0.length c0_0):=cz BK242 0
      have hcz91_1:wr.cell? ⟨gb242,1,none⟩ = some (.slice A0_1 l0_1.length c0_1):=cz BK242 1
      have hfz91_0:=blk_frozen BK242.out 0
      have hfz91_1:=blk_frozen BK242.out 1
      obtain ⟨Ao92,co92,eo92⟩:=Kd.R_slice HO_247000.out
      subst eo92
      go_wp2_with (first | (go_at_call 103;(with_reducible refine (shares_net_fair_1.calls k2 x27_2 _ _ l0_0 _ _ l0_1 _ _ x251000_1 _ _ x247000_1 t253 t254 true _ gb242 gb250 gb246 BK242.out BK250.out BK246.out NB242_250.out NB242_246.out NB250_246.out ?side1 ?side2 ?side3 ?side4 ?side5 ?side6 ?side7 ?side8 A35.out).mono ?_);(case side1=>exact cB HR0_0 HB);(case side2=>exact HC0_0.out);(case side3=>exact cB HR0_1 HB);(case side4=>exact HC0_1.out);(case side5=>repeat (first | exact (Kd.R_reads' HO_251000.out).2.2 | (with_reducible refine Kd.C_alloc ?_ _) | (with_reducible refine Kd.C_drewN ?_ _) | (with_reducible refine Kd.C_drew ?_)));(case side6=>exact (Kd.R_reads' HO_251000.out).2.1);(case side7=>repeat (first | exact (Kd.R_reads' HO_247000.out).2.2 | (with_reducible refine Kd.C_alloc ?_ _) | (with_reducible refine Kd.C_drewN ?_ _) | (with_reducible refine Kd.C_drew ?_)));(case side8=>exact (Kd.R_reads' HO_247000.out).2.1);rintro e w93 ⟨rfl,hb⟩;replace HO_247000:=rB HO_247000 hb;replace HO_251000:=rB HO_251000 hb;replace BK242:=kB BK242 hb;replace BK246:=kB BK246 hb;replace BK250:=kB BK250 hb;replace BK252:=kB BK252 hb;replace HB:=bB HB hb;(try clear hb)) | ((with_reducible refine gate_dst (N:=9) rfl ?_);refine bx 9 #[.int .i64 0,.int .i64 0] 23 ?_;intro gb256 hg w94 hbox hb;have BK256:=A_ hbox;have GW256:=gw hg HB;have GE256:=GW256;have NB242_256:=nl hg BK242;have NB256_242:=ng hg BK242;have NB246_256:=nl hg BK246;have NB256_246:=ng hg BK246;have NB250_256:=nl hg BK250;have NB256_250:=ng hg BK250;have NB252_256:=nl hg BK252;have NB256_252:=ng hg BK252;replace HO_247000:=A_ (Kd.R_below (Kd.R_elderB HO_247000.out gb256 (Nat.le_of_eq hg.symm)) hb);replace HO_251000:=rB HO_251000 hb;replace BK242:=kB BK242 hb;replace BK246:=kB BK246 hb;replace BK250:=kB BK250 hb;replace BK252:=kB BK252 hb;replace HB:=bB HB hb;clear hb hbox hg;have hnb95:=NB256_242.out;have hnc95:=NB242_256.out;have hnb96:=NB256_246.out;have hnc96:=NB246_256.out;have hnb97:=NB256_250.out;have hnc97:=NB250_256.out;have hnb98:=NB256_252.out;have hnc98:=NB252_256.out;have hcz99_0:w94.cell? ⟨gb256,0,none⟩ = some (.int .i64 0):=cz BK256 0;have hcz99_1:w94.cell? ⟨gb256,1,none⟩ = some (.int .i64 0):=cz BK256 1;have hfz99_0:=blk_frozen BK256.out 0;have hfz99_1:=blk_frozen BK256.out 1;have hcz100_0:w94.cell? ⟨gb252,0,none⟩ = some (.int .i64 x253000_2):=cz BK252 0;have hcz100_1:w94.cell? ⟨gb252,1,none⟩ = some (.int .i64 x253001_2):=cz BK252 1;have hfz100_0:=blk_frozen BK252.out 0;have hfz100_1:=blk_frozen BK252.out 1) | (go_at_call 85;(with_reducible refine (shares_compare.calls k2 t253 t254 x253000_2 x253001_2 t257 _ A59.out).mono ?_);rintro e w101 ⟨rfl,hb⟩;replace HO_247000:=A_ (Kd.R_below (by exact (Kd.R_mono (Kd.R_far (p:=⟨gb256,1,none⟩) (Kd.R_far (p:=⟨gb256,0,none⟩) (Kd.R_mono HO_247000.out (fun k_ hk=>(⟨hk,hk.2⟩:_ ∧ k_ ≠ gb256))) (fun _ hk=>hk.2) (.int .i64 t253)) (fun _ hk=>hk.2) (.int .i64 t254)) (fun _ h_=>h_.1))) hb);replace HO_251000:=A_ (Kd.R_below (by exact (Kd.R_mono (Kd.R_far (p:=⟨gb256,1,none⟩) (Kd.R_far (p:=⟨gb256,0,none⟩) (Kd.R_types HO_251000.out BK256.out (by decide)) (fun _ hk=>hk.2) (.int .i64 t253)) (fun _ hk=>hk.2) (.int .i64 t254)) (fun _ h_=>h_.1))) hb);replace BK242:=kB BK242 hb;replace BK246:=kB BK246 hb;replace BK250:=kB BK250 hb;replace BK252:=kB BK252 hb;replace BK256:=A_ (blk_below (g:=gb256) (o:=.cells #[.int .i64 t253,.int .i64 t254] 23 (0,0)) (by refine blk_put (cs:=#[.int .i64 t253,.int .i64 0]) ?_ 1 _ rfl;refine blk_put (cs:=#[.int .i64 0,.int .i64 0]) ?_ 0 _ rfl;exact BK256.out) hb);replace HB:=bB HB hb;(try clear hb)))
      go_roundg k2
      case measure=>have:=HK1.out;have:=HK2.out;omega
      case rel=>exact ⟨(x6_2),(wrap64 (x27_2 + 1)),(x253000_2),(x253001_2),rfl,rfl,H',⟨by have:=HK1.out;have:=HK2.out;omega⟩,⟨by exact Kd.R_mono HO_247000.out (fun _ hk=>hk.1)⟩,⟨by exact HO_251000.out⟩,⟨by exact BK242.out⟩,⟨by exact BK246.out⟩,⟨by exact BK250.out⟩,⟨by exact BK252.out⟩,⟨bl HB⟩⟩
     rw [if_pos c60] at H
     have c60b0:=decide_eq_true c60
     clear c60
     have H':=A_ H
     clear H
     have hnb61:=NB246_242.out
     have hnc61:=NB242_246.out
     have hnb62:=NB246_250.out
     have hnc62:=NB250_246.out
     have hnb63:=NB246_252.out
     have hnc63:=NB252_246.out
     have hcz64_0:wr.cell? ⟨gb246,0,none⟩ = some (u247000):=cz BK246 0
     have hfz64_0:=blk_frozen BK246.out 0
     have hnb65:=NB250_242.out
     have hnc65:=NB242_250.out
     have hnb66:=NB250_252.out
     have hnc66:=NB252_250.out
     have hcz67_0:wr.cell? ⟨gb250,0,none⟩ = some (.slice Ao26 x251000_1.length co26):=cz BK250 0
     have hfz67_0:=blk_frozen BK250.out 0
     have hnb68:=NB242_252.out
     have hnc68:=NB252_242.out
     have hcz69_0:wr.cell? ⟨gb242,0,none⟩ = some (.slice A0_0 l0_0.length c0_0):=cz BK242 0
     have hcz69_1:wr.cell? ⟨gb242,1,none⟩ = some (.slice A0_1 l0_1.length c0_1):=cz BK242 1
     have hfz69_0:=blk_frozen BK242.out 0
     have hfz69_1:=blk_frozen BK242.out 1
     obtain ⟨Ao70,co70,eo70⟩:=Kd.R_slice HO_247000.out
     subst eo70
     try go_wp2_with (first | (go_at_call 103;(with_reducible refine (shares_net_fair_1.calls k2 x27_2 _ _ l0_0 _ _ l0_1 _ _ x251000_1 _ _ x247000_1 t253 t254 true _ gb242 gb250 gb246 BK242.out BK250.out BK246.out NB242_250.out NB242_246.out NB250_246.out ?side1 ?side2 ?side3 ?side4 ?side5 ?side6 ?side7 ?side8 A35.out).mono ?_);(case side1=>exact cB HR0_0 HB);(case side2=>exact HC0_0.out);(case side3=>exact cB HR0_1 HB);(case side4=>exact HC0_1.out);(case side5=>repeat (first | exact (Kd.R_reads' HO_251000.out).2.2 | (with_reducible refine Kd.C_alloc ?_ _) | (with_reducible refine Kd.C_drewN ?_ _) | (with_reducible refine Kd.C_drew ?_)));(case side6=>exact (Kd.R_reads' HO_251000.out).2.1);(case side7=>repeat (first | exact (Kd.R_reads' HO_247000.out).2.2 | (with_reducible refine Kd.C_alloc ?_ _) | (with_reducible refine Kd.C_drewN ?_ _) | (with_reducible refine Kd.C_drew ?_)));(case side8=>exact (Kd.R_reads' HO_247000.out).2.1);rintro e w71 ⟨rfl,hb⟩;replace HO_247000:=rB HO_247000 hb;replace HO_251000:=rB HO_251000 hb;replace BK242:=kB BK242 hb;replace BK246:=kB BK246 hb;replace BK250:=kB BK250 hb;replace BK252:=kB BK252 hb;replace HB:=bB HB hb;(try clear hb)) | ((with_reducible refine gate_dst (N:=9) rfl ?_);refine bx 9 #[.int .i64 0,.int .i64 0] 23 ?_;intro gb256 hg w72 hbox hb;have BK256:=A_ hbox;have GW256:=gw hg HB;have GE256:=GW256;have NB242_256:=nl hg BK242;have NB256_242:=ng hg BK242;have NB246_256:=nl hg BK246;have NB256_246:=ng hg BK246;have NB250_256:=nl hg BK250;have NB256_250:=ng hg BK250;have NB252_256:=nl hg BK252;have NB256_252:=ng hg BK252;replace HO_247000:=A_ (Kd.R_below (Kd.R_elderB HO_247000.out gb256 (Nat.le_of_eq hg.symm)) hb);replace HO_251000:=rB HO_251000 hb;replace BK242:=kB BK242 hb;replace BK246:=kB BK246 hb;replace BK250:=kB BK250 hb;replace BK252:=kB BK252 hb;replace HB:=bB HB hb;clear hb hbox hg;have hnb73:=NB256_242.out;have hnc73:=NB242_256.out;have hnb74:=NB256_246.out;have hnc74:=NB246_256.out;have hnb75:=NB256_250.out;have hnc75:=NB250_256.out;have hnb76:=NB256_252.out;have hnc76:=NB252_256.out;have hcz77_0:w72.cell? ⟨gb256,0,none⟩ = some (.int .i64 0):=cz BK256 0;have hcz77_1:w72.cell? ⟨gb256,1,none⟩ = some (.int .i64 0):=cz BK256 1;have hfz77_0:=blk_frozen BK256.out 0;have hfz77_1:=blk_frozen BK256.out 1;have hcz78_0:w72.cell? ⟨gb252,0,none⟩ = some (.int .i64 x253000_2):=cz BK252 0;have hcz78_1:w72.cell? ⟨gb252,1,none⟩ = some (.int .i64 x253001_2):=cz BK252 1;have hfz78_0:=blk_frozen BK252.out 0;have hfz78_1:=blk_frozen BK252.out 1) | (go_at_call 85;(with_reducible refine (shares_compare.calls k2 t253 t254 x253000_2 x253001_2 t257 _ A59.out).mono ?_);rintro e w79 ⟨rfl,hb⟩;replace HO_247000:=A_ (Kd.R_below (by exact (Kd.R_mono (Kd.R_far (p:=⟨gb256,1,none⟩) (Kd.R_far (p:=⟨gb256,0,none⟩) (Kd.R_mono HO_247000.out (fun k_ hk=>(⟨hk,hk.2⟩:_ ∧ k_ ≠ gb256))) (fun _ hk=>hk.2) (.int .i64 t253)) (fun _ hk=>hk.2) (.int .i64 t254)) (fun _ h_=>h_.1))) hb);replace HO_251000:=A_ (Kd.R_below (by exact (Kd.R_mono (Kd.R_far (p:=⟨gb256,1,none⟩) (Kd.R_far (p:=⟨gb256,0,none⟩) (Kd.R_types HO_251000.out BK256.out (by decide)) (fun _ hk=>hk.2) (.int .i64 t253)) (fun _ hk=>hk.2) (.int .i64 t254)) (fun _ h_=>h_.1))) hb);replace BK242:=kB BK242 hb;replace BK246:=kB BK246 hb;replace BK250:=kB BK250 hb;replace BK252:=kB BK252 hb;replace BK256:=A_ (blk_below (g:=gb256) (o:=.cells #[.int .i64 t253,.int .i64 t254] 23 (0,0)) (by refine blk_put (cs:=#[.int .i64 t253,.int .i64 0]) ?_ 1 _ rfl;refine blk_put (cs:=#[.int .i64 0,.int .i64 0]) ?_ 0 _ rfl;exact BK256.out) hb);replace HB:=bB HB hb;(try clear hb)))
     replace HO_247000:=rD HO_247000
     replace HO_251000:=rD HO_251000
     replace BK242:=kD BK242
     replace BK246:=kD BK246
     replace BK250:=kD BK250
     replace BK252:=kD BK252
     replace BK256:=kD BK256
     replace HB:=bD HB
     refine start_ (n:=4) (S:=fun w'=>w'.cell? ⟨gb256,0,none⟩ = some (.int .i64 t253) ∧ w'.cell? ⟨gb256,1,none⟩ = some (.int .i64 t254)) (ds:=[]) (ba 4 0) (by kernel_rfl) rfl rfl ⟨cz BK256 0,cz BK256 1⟩ (fun hHeld=>?_)
     generalize w79.drew = w80 at HO_247000 HO_251000 BK242 BK246 BK250 BK252 BK256 HB hHeld ⊢
     refine pr 0 47 1 ?_
     refine pr 2 6 5 ?_
     refine tr 1 48 7 hHeld ?_
     refine one_ (i:=3) (N:=none) (ba 4 15) rfl rfl (by kernel_rfl) (by decide) (fun K hK=>?_)
     have hs81:w80.cell? ⟨gb252,0,none⟩ = some (.int .i64 x253000_2):=cz BK252 0
     have hfs81:=blk_frozen BK252.out 0
     have hns81_0:=NB242_252.out
     have hns81_1:=NB246_252.out
     have hns81_2:=NB250_252.out
     have hns81_4:=NB256_252.out
     have hms81_0:=NB252_242.out
     have hms81_1:=NB252_246.out
     have hms81_2:=NB252_250.out
     have hms81_4:=NB252_256.out
     have hs82:w80.cell? ⟨gb252,1,none⟩ = some (.int .i64 x253001_2):=cz BK252 1
     have hfs82:=blk_frozen BK252.out 1
     have hns82_0:=NB242_252.out
     have hns82_1:=NB246_252.out
     have hns82_2:=NB250_252.out
     have hns82_4:=NB256_252.out
     have hms82_0:=NB252_242.out
     have hms82_1:=NB252_246.out
     have hms82_2:=NB252_250.out
     have hms82_4:=NB252_256.out
     refine skip_ (w1:=?_) (by rfl) rfl ?_ ?_
     rotate_left
     ·go_simp
      rfl
     refine hK.out _ _ ⟨((cell_far (p:=⟨gb252,_,none⟩) NB256_252.out _).trans (((cell_far (p:=⟨gb252,_,none⟩) NB256_252.out _).trans (hHeld.1)))),((cell_far (p:=⟨gb252,_,none⟩) NB256_252.out _).trans (((cell_far (p:=⟨gb252,_,none⟩) NB256_252.out _).trans (hHeld.2))))⟩ (fun hHeld=>?_)
     clear hK K
     refine done_ (by kernel_rfl) ?_
     try go_wp2
     go_roundg k2
     case measure=>have:=HK1.out;have:=HK2.out;omega
     case rel=>exact ⟨(x27_2),(wrap64 (x27_2 + 1)),(t253),(t254),rfl,rfl,H',⟨by have:=HK1.out;have:=HK2.out;omega⟩,⟨by exact Kd.R_mono (Kd.R_far (p:=⟨gb252,1,none⟩) (Kd.R_far (p:=⟨gb252,0,none⟩) (Kd.R_mono HO_247000.out (fun k_ hk=>(⟨hk,hk.1⟩:_ ∧ k_ ≠ gb252))) (fun _ hk=>hk.2) (.int .i64 t253)) (fun _ hk=>hk.2) (.int .i64 t254)) (fun _ hk=>hk.1.1)⟩,⟨by exact Kd.R_mono (Kd.R_far (p:=⟨gb252,1,none⟩) (Kd.R_far (p:=⟨gb252,0,none⟩) (Kd.R_types HO_251000.out BK252.out (by decide)) (fun _ hk=>hk.2) (.int .i64 t253)) (fun _ hk=>hk.2) (.int .i64 t254)) (fun _ hk=>trivial)⟩,⟨by refine blk_far ?_ NB242_252.out _;refine blk_far ?_ NB242_252.out _;exact BK242.out⟩,⟨by refine blk_far ?_ NB246_252.out _;refine blk_far ?_ NB246_252.out _;exact BK246.out⟩,⟨by refine blk_far ?_ NB250_252.out _;refine blk_far ?_ NB250_252.out _;exact BK250.out⟩,⟨by refine blk_put (cs:=#[.int .i64 t253,.int .i64 x253001_2]) ?_ 1 _ rfl;refine blk_put (cs:=#[.int .i64 x253000_2,.int .i64 x253001_2]) ?_ 0 _ rfl;exact BK252.out⟩,⟨bl HB⟩⟩
def shares_net_load.l0:Nat → List (S23) → Int → Int → Int → List Int → List (S45) → Int → Int → Option (Int × Int)
 | 0,_,_,_,_,_,_,_,_=>none
 | k + 1,x1,x2,x12,x13,x266000,x266001,x270000,x270001=>if x13 < x12 then ((shares_net_has.f k x266000 x266001 x13 x2).bind fun t270=>(if t270 = true then (if 0 ≤ x13 then (if x13 < (x1.length:Int) then ((shares_add.f k x270000 x270001 ((rd_T23 x1 x13).f0) ((rd_T23 x1 x13).f1)).bind fun bt272=>(shares_net_load.l0 k x1 x2 x12 (wrap64 (x13 + 1)) x266000 x266001 bt272.1 bt272.2)) else (none)) else (none)) else (shares_net_load.l0 k x1 x2 x12 (wrap64 (x13 + 1)) x266000 x266001 x270000 x270001))) else (some (x270000,x270001))
def shares_net_load.f (k:Nat) (l0_0:List Int) (l0_1:List (S45)) (l1:List (S23)) (a2:Int):Option (Int × Int):=(shares_whole.f 0).bind fun bt267=>(shares_net_load.l0 k l1 a2 (l0_1.length:Int) 0 l0_0 l0_1 bt267.1 bt267.2)
theorem shares_net_load.mono_l:∀ k,(∀ y0 y1 y2 y3 y4 y5 y6 y7,LeO (shares_net_load.l0 k y0 y1 y2 y3 y4 y5 y6 y7) (shares_net_load.l0 (k + 1) y0 y1 y2 y3 y4 y5 y6 y7))
 | 0=>fun _ _ _ _ _ _ _ _ r h=>by simp [shares_net_load.l0] at h
 | k + 1=>by
  have ih0:=shares_net_load.mono_l k
  intro y0 y1 y2 y3 y4 y5 y6 y7
  unfold shares_net_load.l0
  repeat' first
  | (with_reducible first | exact ih0 _ _ _ _ _ _ _ _ | exact shares_add.mono _ _ _ _ _ | exact shares_net_has.mono _ _ _ _ _ | exact LeO.refl _ | exact LeO.none _ | refine LeO.ite ?_ ?_ | refine LeO.bind ?_ (fun _=>?_))
  | exact LeO.none _ | refine LeO.ite ?_ ?_ | refine LeO.bind ?_ (fun _=>?_)
theorem shares_net_load.mono:∀ a0 a1 a2 a3 k,LeO (shares_net_load.f k a0 a1 a2 a3) (shares_net_load.f (k + 1) a0 a1 a2 a3):=by
 intro a0 a1 a2 a3 k
 have ih0:=shares_net_load.mono_l k
 unfold shares_net_load.f
 repeat' first
   | (with_reducible first | exact ih0 _ _ _ _ _ _ _ _ | exact shares_add.mono _ _ _ _ _ | exact shares_net_has.mono _ _ _ _ _ | exact LeO.refl _ | exact LeO.none _ | refine LeO.ite ?_ ?_ | refine LeO.bind ?_ (fun _=>?_))
   | exact LeO.none _ | refine LeO.ite ?_ ?_ | refine LeO.bind ?_ (fun _=>?_)
theorem shares_net_load.calls (k:Nat) (A0_0:Option Addr) (c0_0:Nat) (l0_0:List Int) (A0_1:Option Addr) (c0_1:Nat) (l0_1:List (S45)) (A1:Option Addr) (c1:Nat) (l1:List (S23)) (a2:Int) (r1:Int) (r2:Int) (w:World) (hr0_0:Kd.C (Kd.int .i64) w A0_0 l0_0.length l0_0) (hc0_0:l0_0.length ≤ c0_0) (hr0_1:Kd.C k45 w A0_1 l0_1.length l0_1) (hc0_1:l0_1.length ≤ c0_1) (hr1:Kd.C k23 w A1 l1.length l1) (hc1:l1.length ≤ c1) (h:shares_net_load.f k l0_0 l0_1 l1 a2 = some (r1,r2)) :
  Calls Try.prog 107 #[.agg #[.slice A0_0 l0_0.length c0_0,.slice A0_1 l0_1.length c0_1],.slice A1 l1.length c1,.int .i64 a2] w fun e w'=>e = .returned (.agg #[.int .i64 r1,.int .i64 r2]) ∧ Below w.heap.size w w':=by
 have hu109:=Try.underlying109
 have hu23:=Try.underlying23
 have HR0_0:=A_ hr0_0
 have HC0_0:=A_ hc0_0
 clear hr0_0 hc0_0
 have HR0_1:=A_ hr0_1
 have HC0_1:=A_ hc0_1
 clear hr0_1 hc0_1
 have HR1:=A_ hr1
 have HC1:=A_ hc1
 clear hr1 hc1
 have HB:=A_ (Below.refl w.heap.size w)
 have H:((shares_whole.f 0).bind fun bt267=>(shares_net_load.l0 k l1 a2 (l0_1.length:Int) 0 l0_0 l0_1 bt267.1 bt267.2)) = some (r1,r2):=h
 clear h
 replace H:=Option.bind_eq_some_iff.mp H
 obtain ⟨⟨t267,t268⟩,A40,H⟩:=H
 dsimp only at H
 have A4:=A_ A40
 clear A40
 have H':=A_ H
 clear H
 go_enter Try.func107,Try.ntmps107
 go_wp2_with (first | ((with_reducible refine gate_dst (N:=3) rfl ?_);refine bx 3 #[.slice A0_0 l0_0.length c0_0,.slice A0_1 l0_1.length c0_1] 109 ?_;intro gb265 hg w5 hbox hb;have BK265:=A_ hbox;have GW265:=gw hg HB;have GE265:=GW265;replace HB:=bB HB hb;clear hb hbox hg) | ((with_reducible refine gate_dst (N:=6) rfl ?_);refine bx 6 #[.int .i64 0,.int .i64 0] 23 ?_;intro gb266 hg w6 hbox hb;have BK266:=A_ hbox;have GW266:=gw hg HB;have GE266:=GW266;have NB265_266:=nl hg BK265;have NB266_265:=ng hg BK265;replace BK265:=kB BK265 hb;replace HB:=bB HB hb;clear hb hbox hg) | ((with_reducible refine gate_callee (f:=64) rfl ?_);refine gL (some 9) Try.func64 #[.int .i64 0] ?_;(with_reducible refine (shares_whole.calls 0 t267 t268 _ A4.out).mono ?_);rintro e w7 ⟨rfl,hb⟩;refine ⟨_,rfl,?_⟩;replace BK265:=kB BK265 hb;replace BK266:=kB BK266 hb;replace HB:=bB HB hb;(try clear hb)) | ((with_reducible refine gate_dst (N:=7) rfl ?_);refine bx 7 #[.int .i64 0,.int .i64 0] 23 ?_;intro gb269 hg w8 hbox hb;have BK269:=A_ hbox;have GW269:=gw hg HB;have GE269:=GW269;have NB265_269:=nl hg BK265;have NB269_265:=ng hg BK265;have NB266_269:=nl hg BK266;have NB269_266:=ng hg BK266;replace BK265:=kB BK265 hb;replace BK266:=kB BK266 hb;replace HB:=bB HB hb;clear hb hbox hg;have hnb9:=NB269_265.out;have hnc9:=NB265_269.out;have hnb10:=NB269_266.out;have hnc10:=NB266_269.out;have hcz11_0:w8.cell? ⟨gb269,0,none⟩ = some (.int .i64 0):=cz BK269 0;have hcz11_1:w8.cell? ⟨gb269,1,none⟩ = some (.int .i64 0):=cz BK269 1;have hfz11_0:=blk_frozen BK269.out 0;have hfz11_1:=blk_frozen BK269.out 1;have hnb12:=NB265_266.out;have hnc12:=NB266_265.out;have hcz13_0:w8.cell? ⟨gb265,0,none⟩ = some (.slice A0_0 l0_0.length c0_0):=cz BK265 0;have hcz13_1:w8.cell? ⟨gb265,1,none⟩ = some (.slice A0_1 l0_1.length c0_1):=cz BK265 1;have hfz13_0:=blk_frozen BK265.out 0;have hfz13_1:=blk_frozen BK265.out 1))
 go_loopg [13] k (fun kq v13 w'=>∃ (x13_1:Int) (x270000_1:Int) (x270001_1:Int),v13 = .int .i64 x13_1 ∧ Aside0 (shares_net_load.l0 kq l1 a2 (l0_1.length:Int) x13_1 l0_0 l0_1 x270000_1 x270001_1 = some (r1,r2)) ∧ Aside0 (kq ≤ k) ∧ Aside0 (w'.heap[gb265]? = some (.cells #[(.slice A0_0 l0_0.length c0_0),(.slice A0_1 l0_1.length c0_1)] 109 (0,0))) ∧ Aside0 (w'.heap[gb266]? = some (.cells #[.int .i64 0,.int .i64 0] 23 (0,0))) ∧ Aside0 (w'.heap[gb269]? = some (.cells #[.int .i64 x270000_1,.int .i64 x270001_1] 23 (0,0))) ∧ Aside0 (Below w.heap.size w w'))
 case atStart=>exact ⟨(0),(t267),(t268),rfl,H',⟨Nat.le_refl _⟩,⟨by (with_reducible repeat (first | refine blk_drewN ?_ _ | refine blk_drew ?_ | refine blk_alloc ?_ _));refine blk_far ?_ NB265_269.out _;(with_reducible repeat (first | refine blk_drewN ?_ _ | refine blk_drew ?_ | refine blk_alloc ?_ _));refine blk_far ?_ NB265_269.out _;(with_reducible repeat (first | refine blk_drewN ?_ _ | refine blk_drew ?_ | refine blk_alloc ?_ _));exact BK265.out⟩,⟨by (with_reducible repeat (first | refine blk_drewN ?_ _ | refine blk_drew ?_ | refine blk_alloc ?_ _));refine blk_far ?_ NB266_269.out _;(with_reducible repeat (first | refine blk_drewN ?_ _ | refine blk_drew ?_ | refine blk_alloc ?_ _));refine blk_far ?_ NB266_269.out _;(with_reducible repeat (first | refine blk_drewN ?_ _ | refine blk_drew ?_ | refine blk_alloc ?_ _));exact BK266.out⟩,⟨by (with_reducible repeat (first | refine blk_drewN ?_ _ | refine blk_drew ?_ | refine blk_alloc ?_ _));refine blk_put (cs:=#[.int .i64 t267,.int .i64 0]) ?_ 1 _ rfl;(with_reducible repeat (first | refine blk_drewN ?_ _ | refine blk_drew ?_ | refine blk_alloc ?_ _));refine blk_put (cs:=#[.int .i64 0,.int .i64 0]) ?_ 0 _ rfl;(with_reducible repeat (first | refine blk_drewN ?_ _ | refine blk_drew ?_ | refine blk_alloc ?_ _));exact BK269.out⟩,⟨bl HB⟩⟩
 case round =>
  clear H'
  obtain ⟨x13_1,x270000_1,x270001_1,rfl,HA,HK1,BK265,BK266,BK269,HB⟩:=hrel
  cases gk with
  | zero=>exact absurd HA.out (by simp [shares_net_load.l0])
  | succ k1 =>
   have H:=HA.out
   clear HA
   simp only [shares_net_load.l0] at H
   by_cases c14:x13_1 < (l0_1.length:Int)
   case neg =>
    rw [if_neg c14] at H
    have c14b0:=decide_eq_false c14
    clear c14
    simp only [Option.some.injEq,Prod.mk.injEq] at H
    obtain ⟨rfl,rfl⟩:=H
    have hnb32:=NB269_265.out
    have hnc32:=NB265_269.out
    have hnb33:=NB269_266.out
    have hnc33:=NB266_269.out
    have hcz34_0:wr.cell? ⟨gb269,0,none⟩ = some (.int .i64 x270000_1):=cz BK269 0
    have hcz34_1:wr.cell? ⟨gb269,1,none⟩ = some (.int .i64 x270001_1):=cz BK269 1
    have hfz34_0:=blk_frozen BK269.out 0
    have hfz34_1:=blk_frozen BK269.out 1
    have hnb35:=NB266_265.out
    have hnc35:=NB265_266.out
    have hcz36_0:wr.cell? ⟨gb266,0,none⟩ = some (.int .i64 0):=cz BK266 0
    have hcz36_1:wr.cell? ⟨gb266,1,none⟩ = some (.int .i64 0):=cz BK266 1
    have hfz36_0:=blk_frozen BK266.out 0
    have hfz36_1:=blk_frozen BK266.out 1
    go_wp2
    refine bodyPost_ret (results_cell_row rfl _ _ gb266 23 #[.int .i64 x270000_1,.int .i64 x270001_1] (0,0) _ rfl (by (with_reducible repeat (first | refine blk_drewN ?_ _ | refine blk_drew ?_ | refine blk_alloc ?_ _));refine blk_put (cs:=#[.int .i64 x270000_1,.int .i64 0]) ?_ 1 _ rfl;(with_reducible repeat (first | refine blk_drewN ?_ _ | refine blk_drew ?_ | refine blk_alloc ?_ _));refine blk_put (cs:=#[.int .i64 0,.int .i64 0]) ?_ 0 _ rfl;(with_reducible repeat (first | refine blk_drewN ?_ _ | refine blk_drew ?_ | refine blk_alloc ?_ _));exact BK266.out) Try.underlying23 rfl (by kernel_rfl)) rfl ?_
    exact ⟨rfl,bl HB⟩
   rw [if_pos c14] at H
   have c14b0:=decide_eq_true c14
   clear c14
   replace H:=Option.bind_eq_some_iff.mp H
   obtain ⟨t270,A150,H⟩:=H
   replace H:(if t270 = true then (if 0 ≤ x13_1 then (if x13_1 < (l1.length:Int) then ((shares_add.f k1 x270000_1 x270001_1 ((rd_T23 l1 x13_1).f0) ((rd_T23 l1 x13_1).f1)).bind fun bt272=>(shares_net_load.l0 k1 l1 a2 (l0_1.length:Int) (wrap64 (x13_1 + 1)) l0_0 l0_1 bt272.1 bt272.2)) else (none)) else (none)) else (shares_net_load.l0 k1 l1 a2 (l0_1.length:Int) (wrap64 (x13_1 + 1)) l0_0 l0_1 x270000_1 x270001_1)) = some (r1,r2):=H
   have A15:=A_ A150
   clear A150
   by_cases c16:t270 = true
   case neg =>
    replace c16:=Bool.eq_false_iff.mpr c16
    subst c16
    rw [if_neg (show ¬ (false = true) by decide)] at H
    have H':=A_ H
    clear H
    have hnb28:=NB265_266.out
    have hnc28:=NB266_265.out
    have hnb29:=NB265_269.out
    have hnc29:=NB269_265.out
    have hcz30_0:wr.cell? ⟨gb265,0,none⟩ = some (.slice A0_0 l0_0.length c0_0):=cz BK265 0
    have hcz30_1:wr.cell? ⟨gb265,1,none⟩ = some (.slice A0_1 l0_1.length c0_1):=cz BK265 1
    have hfz30_0:=blk_frozen BK265.out 0
    have hfz30_1:=blk_frozen BK265.out 1
    go_wp2_with (first | ((with_reducible refine gate_callee (f:=104) rfl ?_);refine gL (some 19) Try.func104 #[.agg #[.slice A0_0 l0_0.length c0_0,.slice A0_1 l0_1.length c0_1],.int .i64 x13_1,.int .i64 a2] ?_;(with_reducible refine (shares_net_has.calls k1 _ _ l0_0 _ _ l0_1 x13_1 a2 false _ ?side1 ?side2 ?side3 ?side4 A15.out).mono ?_);(case side1=>exact cB HR0_0 HB);(case side2=>exact HC0_0.out);(case side3=>exact cB HR0_1 HB);(case side4=>exact HC0_1.out);rintro e w31 ⟨rfl,hb⟩;refine ⟨_,rfl,?_⟩;replace BK265:=kB BK265 hb;replace BK266:=kB BK266 hb;replace BK269:=kB BK269 hb;replace HB:=bB HB hb;(try clear hb)))
    go_roundg k1
    case measure=>have:=HK1.out;omega
    case rel=>exact ⟨(wrap64 (x13_1 + 1)),(x270000_1),(x270001_1),rfl,H',⟨by have:=HK1.out;omega⟩,⟨by (with_reducible repeat (first | refine blk_drewN ?_ _ | refine blk_drew ?_ | refine blk_alloc ?_ _));exact BK265.out⟩,⟨by (with_reducible repeat (first | refine blk_drewN ?_ _ | refine blk_drew ?_ | refine blk_alloc ?_ _));exact BK266.out⟩,⟨by (with_reducible repeat (first | refine blk_drewN ?_ _ | refine blk_drew ?_ | refine blk_alloc ?_ _));exact BK269.out⟩,⟨bl HB⟩⟩
   subst c16
   rw [if_pos rfl] at H
   replace H:=gd H
   obtain ⟨c17,H⟩:=H
   have c17b0:=decide_eq_true c17
   clear c17
   replace H:=gd H
   obtain ⟨c18,H⟩:=H
   have c18b0:=decide_eq_true c18
   clear c18
   replace H:=Option.bind_eq_some_iff.mp H
   obtain ⟨⟨t272,t273⟩,A190,H⟩:=H
   dsimp only at H
   have A19:=A_ A190
   clear A190
   have H':=A_ H
   clear H
   have hnb20:=NB265_266.out
   have hnc20:=NB266_265.out
   have hnb21:=NB265_269.out
   have hnc21:=NB269_265.out
   have hcz22_0:wr.cell? ⟨gb265,0,none⟩ = some (.slice A0_0 l0_0.length c0_0):=cz BK265 0
   have hcz22_1:wr.cell? ⟨gb265,1,none⟩ = some (.slice A0_1 l0_1.length c0_1):=cz BK265 1
   have hfz22_0:=blk_frozen BK265.out 0
   have hfz22_1:=blk_frozen BK265.out 1
   try go_wp2_with (first | ((with_reducible refine gate_callee (f:=104) rfl ?_);refine gL (some 19) Try.func104 #[.agg #[.slice A0_0 l0_0.length c0_0,.slice A0_1 l0_1.length c0_1],.int .i64 x13_1,.int .i64 a2] ?_;(with_reducible refine (shares_net_has.calls k1 _ _ l0_0 _ _ l0_1 x13_1 a2 true _ ?side1 ?side2 ?side3 ?side4 A15.out).mono ?_);(case side1=>exact cB HR0_0 HB);(case side2=>exact HC0_0.out);(case side3=>exact cB HR0_1 HB);(case side4=>exact HC0_1.out);rintro e w23 ⟨rfl,hb⟩;refine ⟨_,rfl,?_⟩;replace BK265:=kB BK265 hb;replace BK266:=kB BK266 hb;replace BK269:=kB BK269 hb;replace HB:=bB HB hb;(try clear hb)))
   replace BK265:=kD BK265
   replace BK266:=kD BK266
   replace BK269:=kD BK269
   replace HB:=bD HB
   have p271:0 ≤ (x13_1:Int):=of_decide_eq_true (by assumption)
   have q271:x13_1 < (l1.length:Int):=of_decide_eq_true (by assumption)
   obtain ⟨ad271,e271,hx271_0,hx271_1⟩:=at_T23 HR1.out x13_1 p271 q271
   have hw271_1:=hx271_1
   have hw271_0:=hx271_0
   cases e271
   replace hx271_0:=(HB.out.cell (World.block_lt_of_cell? w _ hx271_0)).trans hx271_0
   replace hx271_1:=(HB.out.cell (World.block_lt_of_cell? w _ hx271_1)).trans hx271_1
   replace p271:=eq_true p271
   replace q271:=eq_true q271
   refine start_ (n:=7) (S:=fun w'=>w'.cell? ⟨gb269,0,none⟩ = some (.int .i64 x270000_1) ∧ w'.cell? ⟨gb269,1,none⟩ = some (.int .i64 x270001_1) ∧ w'.cell? (ad271.add ((x13_1).toNat * 2)) = some (.int .i64 ((rd_T23 l1 x13_1).f0)) ∧ w'.cell? ⟨(ad271.add ((x13_1).toNat * 2)).block,(ad271.add ((x13_1).toNat * 2)).off + 1,none⟩ = some (.int .i64 ((rd_T23 l1 x13_1).f1))) (ds:=[6]) (ba 7 0) (by kernel_rfl) rfl rfl ⟨cz BK269 0,cz BK269 1,((HB.out.cell (World.block_lt_of_cell? w _ hw271_0)).trans hw271_0),((HB.out.cell (World.block_lt_of_cell? w _ hw271_1)).trans hw271_1)⟩ (fun hHeld=>?_)
   generalize w23.drew = w24 at BK265 BK266 BK269 HB hx271_0 hx271_1 hHeld ⊢
   refine pr 1 21 2 ?_
   refine pr 2 22 6 ?_
   refine pr 3 23 14 ?_
   refine tr 0 20 15 hHeld ?_
   refine tr 4 24 31 hHeld ?_
   refine os 5 25 63 (fun K hK=>?_)
   refine gq Try.func88 #[.agg #[.int .i64 x270000_1,.int .i64 x270001_1],.agg #[.int .i64 ((rd_T23 l1 x13_1).f0),.int .i64 ((rd_T23 l1 x13_1).f1)]] ?_
   with_reducible refine (shares_add.calls k1 x270000_1 x270001_1 ((rd_T23 l1 x13_1).f0) ((rd_T23 l1 x13_1).f1) t272 t273 _ A19.out).mono ?_
   rintro e w25 ⟨rfl,hb⟩
   refine ⟨_,rfl,?_⟩
   replace BK265:=kB BK265 hb
   replace BK266:=kB BK266 hb
   replace BK269:=kB BK269 hb
   replace HB:=bB HB hb
   (try clear hb)
   refine hK.out _ _ ⟨cz BK269 0,cz BK269 1,((HB.out.cell (World.block_lt_of_cell? w _ hw271_0)).trans hw271_0),((HB.out.cell (World.block_lt_of_cell? w _ hw271_1)).trans hw271_1)⟩ (fun hHeld=>?_)
   clear hK K
   refine nq 25 ?_
   refine last_ (i:=6) (N:=none) (ba 7 127) rfl rfl (by kernel_rfl) (by decide) (fun K hK=>?_)
   have hs26:w25.cell? ⟨gb269,0,none⟩ = some (.int .i64 x270000_1):=cz BK269 0
   have hfs26:=blk_frozen BK269.out 0
   have hns26_0:=NB265_269.out
   have hns26_1:=NB266_269.out
   have hms26_0:=NB269_265.out
   have hms26_1:=NB269_266.out
   have hs27:w25.cell? ⟨gb269,1,none⟩ = some (.int .i64 x270001_1):=cz BK269 1
   have hfs27:=blk_frozen BK269.out 1
   have hns27_0:=NB265_269.out
   have hns27_1:=NB266_269.out
   have hms27_0:=NB269_265.out
   have hms27_1:=NB269_266.out
   refine skip_ (w1:=?_) (by rfl) rfl ?_ ?_
   rotate_left
   ·go_simp
    rfl
   refine hK.out _ _ ?_
   clear hK K
   refine done_ (by kernel_rfl) ?_
   try go_wp2
   go_roundg k1
   case measure=>have:=HK1.out;omega
   case rel=>exact ⟨(wrap64 (x13_1 + 1)),(t272),(t273),rfl,H',⟨by have:=HK1.out;omega⟩,⟨by (with_reducible repeat (first | refine blk_drewN ?_ _ | refine blk_drew ?_ | refine blk_alloc ?_ _));refine blk_far ?_ NB265_269.out _;(with_reducible repeat (first | refine blk_drewN ?_ _ | refine blk_drew ?_ | refine blk_alloc ?_ _));refine blk_far ?_ NB265_269.out _;(with_reducible repeat (first | refine blk_drewN ?_ _ | refine blk_drew ?_ | refine blk_alloc ?_ _));exact BK265.out⟩,⟨by (with_reducible repeat (first | refine blk_drewN ?_ _ | refine blk_drew ?_ | refine blk_alloc ?_ _));refine blk_far ?_ NB266_269.out _;(with_reducible repeat (first | refine blk_drewN ?_ _ | refine blk_drew ?_ | refine blk_alloc ?_ _));refine blk_far ?_ NB266_269.out _;(with_reducible repeat (first | refine blk_drewN ?_ _ | refine blk_drew ?_ | refine blk_alloc ?_ _));exact BK266.out⟩,⟨by (with_reducible repeat (first | refine blk_drewN ?_ _ | refine blk_drew ?_ | refine blk_alloc ?_ _));refine blk_put (cs:=#[.int .i64 t272,.int .i64 x270001_1]) ?_ 1 _ rfl;(with_reducible repeat (first | refine blk_drewN ?_ _ | refine blk_drew ?_ | refine blk_alloc ?_ _));refine blk_put (cs:=#[.int .i64 x270000_1,.int .i64 x270001_1]) ?_ 0 _ rfl;(with_reducible repeat (first | refine blk_drewN ?_ _ | refine blk_drew ?_ | refine blk_alloc ?_ _));exact BK269.out⟩,⟨bl HB⟩⟩
def shares_net_level.f (k:Nat) (l0_0:List Int) (l0_1:List (S45)) (l1:List (S23)) (a2:Int):Option (Int × Int):=if 0 ≤ a2 then (if a2 < (l1.length:Int) then (if a2 < (l0_1.length:Int) then ((shares_over.f k ((rd_T23 l1 a2).f0) ((rd_T23 l1 a2).f1) ((rd_T45 l0_1 a2).f0)).bind fun bt278=>(some (bt278.1,bt278.2))) else (none)) else (none)) else (none)
theorem shares_net_level.mono:∀ a0 a1 a2 a3 k,LeO (shares_net_level.f k a0 a1 a2 a3) (shares_net_level.f (k + 1) a0 a1 a2 a3):=by
 intro a0 a1 a2 a3 k
 unfold shares_net_level.f
 repeat' first
   | (with_reducible first | exact shares_over.mono _ _ _ _ | exact LeO.refl _ | exact LeO.none _ | refine LeO.ite ?_ ?_ | refine LeO.bind ?_ (fun _=>?_))
   | exact LeO.none _ | refine LeO.ite ?_ ?_ | refine LeO.bind ?_ (fun _=>?_)
def shares_net_level.T1:Bool × List (List Nat × List Nat):=(true,[([],[]),([],[]),([0,1],[0,1]),([2],[2]),([],[]),([4],[4]),([],[]),([5,6],[5,6]),([7],[7]),([8],[8]),([3,9],[3,9]),([10,10,0,1,2,3,4,5,6,7,8,9,10],[10])])
def shares_net_level.B1:List Nat:=[0,0,3,7,0,16,0,112,240,496,1023,2047]
theorem shares_net_level.tab1:rtab .any (opsOf Try.f108 1) = shares_net_level.T1:=by kernel_rfl
theorem shares_net_level.bits1:waitsOk shares_net_level.T1.2 shares_net_level.B1 = true:=by kernel_rfl
theorem shares_net_level.calls (k:Nat) (A0_0:Option Addr) (c0_0:Nat) (l0_0:List Int) (A0_1:Option Addr) (c0_1:Nat) (l0_1:List (S45)) (A1:Option Addr) (c1:Nat) (l1:List (S23)) (a2:Int) (r1:Int) (r2:Int) (w:World) (hr0_0:Kd.C (Kd.int .i64) w A0_0 l0_0.length l0_0) (hc0_0:l0_0.length ≤ c0_0) (hr0_1:Kd.C k45 w A0_1 l0_1.length l0_1) (hc0_1:l0_1.length ≤ c0_1) (hr1:Kd.C k23 w A1 l1.length l1) (hc1:l1.length ≤ c1) (h:shares_net_level.f k l0_0 l0_1 l1 a2 = some (r1,r2)) :
  Calls Try.prog 108 #[.agg #[.slice A0_0 l0_0.length c0_0,.slice A0_1 l0_1.length c0_1],.slice A1 l1.length c1,.int .i64 a2] w fun e w'=>e = .returned (.agg #[.int .i64 r1,.int .i64 r2]) ∧ Below w.heap.size w w':=by
 have hu109:=Try.underlying109
 have hu23:=Try.underlying23
 have HR0_0:=A_ hr0_0
 have HC0_0:=A_ hc0_0
 clear hr0_0 hc0_0
 have HR0_1:=A_ hr0_1
 have HC0_1:=A_ hc0_1
 clear hr0_1 hc0_1
 have HR1:=A_ hr1
 have HC1:=A_ hc1
 clear hr1 hc1
 have HB:=A_ (Below.refl w.heap.size w)
 have H:(if 0 ≤ a2 then (if a2 < (l1.length:Int) then (if a2 < (l0_1.length:Int) then ((shares_over.f k ((rd_T23 l1 a2).f0) ((rd_T23 l1 a2).f1) ((rd_T45 l0_1 a2).f0)).bind fun bt278=>(some (bt278.1,bt278.2))) else (none)) else (none)) else (none)) = some (r1,r2):=h
 clear h
 replace H:=gd H
 obtain ⟨c4,H⟩:=H
 have c4b0:=decide_eq_true c4
 clear c4
 replace H:=gd H
 obtain ⟨c5,H⟩:=H
 have c5b0:=decide_eq_true c5
 clear c5
 replace H:=gd H
 obtain ⟨c6,H⟩:=H
 have c6b0:=decide_eq_true c6
 clear c6
 replace H:=Option.bind_eq_some_iff.mp H
 obtain ⟨⟨t278,t279⟩,A70,H⟩:=H
 dsimp only at H
 have A7:=A_ A70
 clear A70
 simp only [Option.some.injEq,Prod.mk.injEq] at H
 obtain ⟨rfl,rfl⟩:=H
 go_enter Try.func108,Try.ntmps108
 try go_wp2_with (first | ((with_reducible refine gate_dst (N:=3) rfl ?_);refine bx 3 #[.slice A0_0 l0_0.length c0_0,.slice A0_1 l0_1.length c0_1] 109 ?_;intro gb274 hg w8 hbox hb;have BK274:=A_ hbox;have GW274:=gw hg HB;have GE274:=GW274;replace HB:=bB HB hb;clear hb hbox hg) | ((with_reducible refine gate_dst (N:=6) rfl ?_);refine bx 6 #[.int .i64 0,.int .i64 0] 23 ?_;intro gb275 hg w9 hbox hb;have BK275:=A_ hbox;have GW275:=gw hg HB;have GE275:=GW275;have NB274_275:=nl hg BK274;have NB275_274:=ng hg BK274;replace BK274:=kB BK274 hb;replace HB:=bB HB hb;clear hb hbox hg))
 replace BK274:=kD BK274
 replace BK275:=kD BK275
 replace HB:=bD HB
 have p276:0 ≤ (a2:Int):=of_decide_eq_true (by assumption)
 have q276:a2 < (l1.length:Int):=of_decide_eq_true (by assumption)
 obtain ⟨ad276,e276,hx276_0,hx276_1⟩:=at_T23 HR1.out a2 p276 q276
 have hw276_1:=hx276_1
 have hw276_0:=hx276_0
 cases e276
 replace hx276_0:=(HB.out.cell (World.block_lt_of_cell? w _ hx276_0)).trans hx276_0
 replace hx276_1:=(HB.out.cell (World.block_lt_of_cell? w _ hx276_1)).trans hx276_1
 replace p276:=eq_true p276
 replace q276:=eq_true q276
 have p277:0 ≤ (a2:Int):=of_decide_eq_true (by assumption)
 have q277:a2 < (l0_1.length:Int):=of_decide_eq_true (by assumption)
 obtain ⟨ad277,A277_1,c277_1,e277,hx277_0,hx277_1,hl277_1,hi277_1⟩:=at_T45 HR0_1.out a2 p277 q277
 have hw277_1:=hx277_1
 have hw277_0:=hx277_0
 cases e277
 replace hx277_0:=(HB.out.cell (World.block_lt_of_cell? w _ hx277_0)).trans hx277_0
 replace hx277_1:=(HB.out.cell (World.block_lt_of_cell? w _ hx277_1)).trans hx277_1
 have HR277_1:=A_ hi277_1
 have HC277_1:=A_ hl277_1
 clear hi277_1 hl277_1
 replace p277:=eq_true p277
 replace q277:=eq_true q277
 refine start_ (n:=12) (S:=fun w'=>w'.cell? ⟨gb274,0,none⟩ = some (.slice A0_0 l0_0.length c0_0) ∧ w'.cell? ⟨gb274,1,none⟩ = some (.slice (some ad277) l0_1.length c0_1) ∧ w'.cell? (ad276.add ((a2).toNat * 2)) = some (.int .i64 ((rd_T23 l1 a2).f0)) ∧ w'.cell? ⟨(ad276.add ((a2).toNat * 2)).block,(ad276.add ((a2).toNat * 2)).off + 1,none⟩ = some (.int .i64 ((rd_T23 l1 a2).f1)) ∧ w'.cell? (ad277.add ((a2).toNat * 2)) = some (.int .i64 ((rd_T45 l0_1 a2).f0)) ∧ w'.cell? ⟨(ad277.add ((a2).toNat * 2)).block,(ad277.add ((a2).toNat * 2)).off + 1,none⟩ = some (.slice A277_1 ((rd_T45 l0_1 a2).f1).length c277_1)) (ds:=[]) (ba 12 0) (by kernel_rfl) rfl rfl ⟨cz BK274 0,cz BK274 1,((HB.out.cell (World.block_lt_of_cell? w _ hw276_0)).trans hw276_0),((HB.out.cell (World.block_lt_of_cell? w _ hw276_1)).trans hw276_1),((HB.out.cell (World.block_lt_of_cell? w _ hw277_0)).trans hw277_0),((HB.out.cell (World.block_lt_of_cell? w _ hw277_1)).trans hw277_1)⟩ (fun hHeld=>?_);refine with_tabW shares_net_level.tab1 shares_net_level.bits1 (fun HT_ HW_=>?_)
 generalize w9.drew = w10 at BK274 BK275 HB HR277_1 hx276_0 hx276_1 hx277_0 hx277_1 hHeld ⊢
 refine pq 0 7 1 HT_ ?_
 refine pq 1 8 3 HT_ ?_
 refine pq 2 9 7 HT_ ?_
 refine pq 4 11 23 HT_ ?_
 refine pq 6 13 87 HT_ ?_
 refine tq 3 10 95 HT_ HW_ hHeld ?_
 refine tq 5 12 127 HT_ HW_ hHeld ?_
 refine pq 7 14 255 HT_ ?_
 refine pq 8 15 511 HT_ ?_
 refine tq 9 16 1023 HT_ HW_ hHeld ?_
 refine oq 10 17 2047 HT_ (fun K hK=>?_)
 refine gq Try.func96 #[.agg #[.int .i64 ((rd_T23 l1 a2).f0),.int .i64 ((rd_T23 l1 a2).f1)],.int .i64 ((rd_T45 l0_1 a2).f0)] ?_
 with_reducible refine (shares_over.calls k ((rd_T23 l1 a2).f0) ((rd_T23 l1 a2).f1) ((rd_T45 l0_1 a2).f0) t278 t279 _ A7.out).mono ?_
 rintro e w11 ⟨rfl,hb⟩
 refine ⟨_,rfl,?_⟩
 replace BK274:=kB BK274 hb
 replace BK275:=kB BK275 hb
 replace HB:=bB HB hb
 (try clear hb)
 refine hK.out _ _ ⟨cz BK274 0,cz BK274 1,((HB.out.cell (World.block_lt_of_cell? w _ hw276_0)).trans hw276_0),((HB.out.cell (World.block_lt_of_cell? w _ hw276_1)).trans hw276_1),((HB.out.cell (World.block_lt_of_cell? w _ hw277_0)).trans hw277_0),((HB.out.cell (World.block_lt_of_cell? w _ hw277_1)).trans hw277_1)⟩ (fun hHeld=>?_)
 clear hK K
 refine nq 17 ?_
 refine one_ (i:=11) (N:=none) (ba 12 4095) rfl rfl (one_of HT_.out (by kernel_rfl)) (by decide) (fun K hK=>?_)
 have hs12:w11.cell? ⟨gb275,0,none⟩ = some (.int .i64 0):=cz BK275 0
 have hfs12:=blk_frozen BK275.out 0
 have hns12_0:=NB274_275.out
 have hms12_0:=NB275_274.out
 have hs13:w11.cell? ⟨gb275,1,none⟩ = some (.int .i64 0):=cz BK275 1
 have hfs13:=blk_frozen BK275.out 1
 have hns13_0:=NB274_275.out
 have hms13_0:=NB275_274.out
 refine skip_ (w1:=?_) (by rfl) rfl ?_ ?_
 rotate_left
 ·go_simp
  rfl
 refine hK.out _ _ ⟨((cell_far (p:=⟨gb275,_,none⟩) NB274_275.out _).trans (((cell_far (p:=⟨gb275,_,none⟩) NB274_275.out _).trans (hHeld.1)))),((cell_far (p:=⟨gb275,_,none⟩) NB274_275.out _).trans (((cell_far (p:=⟨gb275,_,none⟩) NB274_275.out _).trans (hHeld.2.1)))),((cell_far (p:=⟨gb275,_,none⟩) (by first | exact Nat.ne_of_lt (Nat.lt_of_lt_of_le (by have:=World.block_lt_of_cell? _ _ hw276_0;first | rwa [add_block] at this | exact this) GW275.out) | (rw [add_block];exact Nat.ne_of_lt (Nat.lt_of_lt_of_le (by have:=World.block_lt_of_cell? _ _ hw276_0;first | rwa [add_block] at this | exact this) GW275.out)) | (show (Addr.add _ _).block ≠ _;rw [add_block];exact Nat.ne_of_lt (Nat.lt_of_lt_of_le (by have:=World.block_lt_of_cell? _ _ hw276_0;first | rwa [add_block] at this | exact this) GW275.out)) | (dsimp only;exact Nat.ne_of_lt (Nat.lt_of_lt_of_le (by have:=World.block_lt_of_cell? _ _ hw276_0;first | rwa [add_block] at this | exact this) GW275.out))) _).trans (((cell_far (p:=⟨gb275,_,none⟩) (by first | exact Nat.ne_of_lt (Nat.lt_of_lt_of_le (by have:=World.block_lt_of_cell? _ _ hw276_0;first | rwa [add_block] at this | exact this) GW275.out) | (rw [add_block];exact Nat.ne_of_lt (Nat.lt_of_lt_of_le (by have:=World.block_lt_of_cell? _ _ hw276_0;first | rwa [add_block] at this | exact this) GW275.out)) | (show (Addr.add _ _).block ≠ _;rw [add_block];exact Nat.ne_of_lt (Nat.lt_of_lt_of_le (by have:=World.block_lt_of_cell? _ _ hw276_0;first | rwa [add_block] at this | exact this) GW275.out)) | (dsimp only;exact Nat.ne_of_lt (Nat.lt_of_lt_of_le (by have:=World.block_lt_of_cell? _ _ hw276_0;first | rwa [add_block] at this | exact this) GW275.out))) _).trans (hHeld.2.2.1)))),((cell_far (p:=⟨gb275,_,none⟩) (by first | exact Nat.ne_of_lt (Nat.lt_of_lt_of_le (by have:=World.block_lt_of_cell? _ _ hw276_1;first | rwa [add_block] at this | exact this) GW275.out) | (rw [add_block];exact Nat.ne_of_lt (Nat.lt_of_lt_of_le (by have:=World.block_lt_of_cell? _ _ hw276_1;first | rwa [add_block] at this | exact this) GW275.out)) | (show (Addr.add _ _).block ≠ _;rw [add_block];exact Nat.ne_of_lt (Nat.lt_of_lt_of_le (by have:=World.block_lt_of_cell? _ _ hw276_1;first | rwa [add_block] at this | exact this) GW275.out)) | (dsimp only;exact Nat.ne_of_lt (Nat.lt_of_lt_of_le (by have:=World.block_lt_of_cell? _ _ hw276_1;first | rwa [add_block] at this | exact this) GW275.out))) _).trans (((cell_far (p:=⟨gb275,_,none⟩) (by first | exact Nat.ne_of_lt (Nat.lt_of_lt_of_le (by have:=World.block_lt_of_cell? _ _ hw276_1;first | rwa [add_block] at this | exact this) GW275.out) | (rw [add_block];exact Nat.ne_of_lt (Nat.lt_of_lt_of_le (by have:=World.block_lt_of_cell? _ _ hw276_1;first | rwa [add_block] at this | exact this) GW275.out)) | (show (Addr.add _ _).block ≠ _;rw [add_block];exact Nat.ne_of_lt (Nat.lt_of_lt_of_le (by have:=World.block_lt_of_cell? _ _ hw276_1;first | rwa [add_block] at this | exact this) GW275.out)) | (dsimp only;exact Nat.ne_of_lt (Nat.lt_of_lt_of_le (by have:=World.block_lt_of_cell? _ _ hw276_1;first | rwa [add_block] at this | exact this) GW275.out))) _).trans (hHeld.2.2.2.1)))),((cell_far (p:=⟨gb275,_,none⟩) (by first | exact Nat.ne_of_lt (Nat.lt_of_lt_of_le (by have:=World.block_lt_of_cell? _ _ hw277_0;first | rwa [add_block] at this | exact this) GW275.out) | (rw [add_block];exact Nat.ne_of_lt (Nat.lt_of_lt_of_le (by have:=World.block_lt_of_cell? _ _ hw277_0;first | rwa [add_block] at this | exact this) GW275.out)) | (show (Addr.add _ _).block ≠ _;rw [add_block];exact Nat.ne_of_lt (Nat.lt_of_lt_of_le (by have:=World.block_lt_of_cell? _ _ hw277_0;first | rwa [add_block] at this | exact this) GW275.out)) | (dsimp only;exact Nat.ne_of_lt (Nat.lt_of_lt_of_le (by have:=World.block_lt_of_cell? _ _ hw277_0;first | rwa [add_block] at this | exact this) GW275.out))) _).trans (((cell_far (p:=⟨gb275,_,none⟩) (by first | exact Nat.ne_of_lt (Nat.lt_of_lt_of_le (by have:=World.block_lt_of_cell? _ _ hw277_0;first | rwa [add_block] at this | exact this) GW275.out) | (rw [add_block];exact Nat.ne_of_lt (Nat.lt_of_lt_of_le (by have:=World.block_lt_of_cell? _ _ hw277_0;first | rwa [add_block] at this | exact this) GW275.out)) | (show (Addr.add _ _).block ≠ _;rw [add_block];exact Nat.ne_of_lt (Nat.lt_of_lt_of_le (by have:=World.block_lt_of_cell? _ _ hw277_0;first | rwa [add_block] at this | exact this) GW275.out)) | (dsimp only;exact Nat.ne_of_lt (Nat.lt_of_lt_of_le (by have:=World.block_lt_of_cell? _ _ hw277_0;first | rwa [add_block] at this | exact this) GW275.out))) _).trans (hHeld.2.2.2.2.1)))),((cell_far (p:=⟨gb275,_,none⟩) (by first | exact Nat.ne_of_lt (Nat.lt_of_lt_of_le (by have:=World.block_lt_of_cell? _ _ hw277_1;first | rwa [add_block] at this | exact this) GW275.out) | (rw [add_block];exact Nat.ne_of_lt (Nat.lt_of_lt_of_le (by have:=World.block_lt_of_cell? _ _ hw277_1;first | rwa [add_block] at this | exact this) GW275.out)) | (show (Addr.add _ _).block ≠ _;rw [add_block];exact Nat.ne_of_lt (Nat.lt_of_lt_of_le (by have:=World.block_lt_of_cell? _ _ hw277_1;first | rwa [add_block] at this | exact this) GW275.out)) | (dsimp only;exact Nat.ne_of_lt (Nat.lt_of_lt_of_le (by have:=World.block_lt_of_cell? _ _ hw277_1;first | rwa [add_block] at this | exact this) GW275.out))) _).trans (((cell_far (p:=⟨gb275,_,none⟩) (by first | exact Nat.ne_of_lt (Nat.lt_of_lt_of_le (by have:=World.block_lt_of_cell? _ _ hw277_1;first | rwa [add_block] at this | exact this) GW275.out) | (rw [add_block];exact Nat.ne_of_lt (Nat.lt_of_lt_of_le (by have:=World.block_lt_of_cell? _ _ hw277_1;first | rwa [add_block] at this | exact this) GW275.out)) | (show (Addr.add _ _).block ≠ _;rw [add_block];exact Nat.ne_of_lt (Nat.lt_of_lt_of_le (by have:=World.block_lt_of_cell? _ _ hw277_1;first | rwa [add_block] at this | exact this) GW275.out)) | (dsimp only;exact Nat.ne_of_lt (Nat.lt_of_lt_of_le (by have:=World.block_lt_of_cell? _ _ hw277_1;first | rwa [add_block] at this | exact this) GW275.out))) _).trans (hHeld.2.2.2.2.2))))⟩ (fun hHeld=>?_)
 clear hK K
 refine done_ (done_of HT_.out (by kernel_rfl)) ?_
 try go_wp2
 refine bodyPost_ret (results_cell_row rfl _ _ gb275 23 #[.int .i64 t278,.int .i64 t279] (0,0) _ rfl (by (with_reducible repeat (first | refine blk_drewN ?_ _ | refine blk_drew ?_ | refine blk_alloc ?_ _));refine blk_put (cs:=#[.int .i64 t278,.int .i64 0]) ?_ 1 _ rfl;(with_reducible repeat (first | refine blk_drewN ?_ _ | refine blk_drew ?_ | refine blk_alloc ?_ _));refine blk_put (cs:=#[.int .i64 0,.int .i64 0]) ?_ 0 _ rfl;(with_reducible repeat (first | refine blk_drewN ?_ _ | refine blk_drew ?_ | refine blk_alloc ?_ _));exact BK275.out) Try.underlying23 rfl (by kernel_rfl)) rfl ?_
 exact ⟨rfl,bl HB⟩
end Go.Proofs.Ytjohcjfmlhihbaa.G
namespace Go.Proofs.Ytjohcjfmlhihbaa.G
open Go.RowKit Go.Proofs.YtjohcjfmlhihbaaW.PrintWords Go.Proofs.YtjohcjfmlhihbaaW.PrintLast Go.Proofs.YtjohcjfmlhihbaaW.PrintMore
attribute [local go_sem] fld23_0 fld23_1 fld45_0 fld45_1 fld109_0 fld109_1 fld94_0 fld94_1 max2_int min2_int max_two min_two max_three min_three max_four min_four   -- for this text's walks alone
set_option linter.unusedVariables false
set_option linter.unusedSimpArgs false
theorem eqA23 (d:Nat) (w:World) (x0 y0:Int) (x1 y1:Int) :
  (Op.equalIn (d + 2) 23 (.agg #[.int .i64 x0,.int .i64 x1]) (.agg #[.int .i64 y0,.int .i64 y1])).run Try.prog w = .ok (x0 == y0 && (x1 == y1)) w:=by
 refine eqA_of Try.underlying23 (by kernel_rfl) ?_
 refine eqf_cons (by rfl) (by go_simp;rfl) (by go_simp;rfl) (by go_simp) ?_
 exact eqf_last (by rfl) (by go_simp;rfl) (by go_simp;rfl) (by go_simp)
end Go.Proofs.Ytjohcjfmlhihbaa.G
namespace Go.Proofs.Ytjohcjfmlhihbaa.G
open Go.RowKit Go.Proofs.YtjohcjfmlhihbaaW.PrintWords Go.Proofs.YtjohcjfmlhihbaaW.PrintLast Go.Proofs.YtjohcjfmlhihbaaW.PrintMore
set_option maxHeartbeats 8000000
set_option maxRecDepth 100000
attribute [local go_sem] cond_true cond_false fld23_0 fld23_1 fld45_0 fld45_1 fld109_0 fld109_1 fld94_0 fld94_1 max2_int min2_int max_two min_two max_three min_three max_four min_four
attribute [local go_sem high] eqA23
mutual
def shares_net_holds.j0:Nat → List (S23) → Int → Int → Bool → List Int → List (S45) → Option (Bool)
 | 0,_,_,_,_,_,_=>none
 | k + 1,x1,x2,x3,x36,x281000,x281001=>if x36 = true then (some false) else (shares_net_holds.l0 k x1 x2 x3 (x281001.length:Int) 0 x281000 x281001)
def shares_net_holds.l0:Nat → List (S23) → Int → Int → Int → Int → List Int → List (S45) → Option (Bool)
 | 0,_,_,_,_,_,_,_=>none
 | k + 1,x1,x2,x3,x39,x40,x281000,x281001=>if x40 < x39 then ((shares_net_has.f k x281000 x281001 x40 x2).bind fun t288=>(if t288 = true then ((shares_net_level.f k x281000 x281001 x1 x40).bind fun bt289=>((shares_net_level.f k x281000 x281001 x1 x3).bind fun bt291=>((shares_compare.f k bt289.1 bt289.2 bt291.1 bt291.2).bind fun t293=>(if t293 > 0 then (some false) else (shares_net_holds.l0 k x1 x2 x3 x39 (wrap64 (x40 + 1)) x281000 x281001))))) else (shares_net_holds.l0 k x1 x2 x3 x39 (wrap64 (x40 + 1)) x281000 x281001))) else (some true)
end
def shares_net_holds.f (k:Nat) (l0_0:List Int) (l0_1:List (S45)) (l1:List (S23)) (a2:Int) (a3:Int):Option (Bool):=(shares_within.f a2 0 (wrap64 ((l0_0.length:Int) - 1))).bind fun t281=>(if t281 = true then ((shares_net_has.f k l0_0 l0_1 a3 a2).bind fun t282=>(if t282 = true then ((shares_net_load.f k l0_0 l0_1 l1 a2).bind fun bt283=>(if 0 ≤ a2 then (if a2 < (l0_0.length:Int) then ((shares_whole.f (rd l0_0 a2)).bind fun bt286=>(shares_net_holds.j0 k l1 a2 a3 (!(bt283.1 == bt286.1) || (!(bt283.2 == bt286.2))) l0_0 l0_1)) else (none)) else (none))) else (shares_net_holds.j0 k l1 a2 a3 true l0_0 l0_1))) else (shares_net_holds.j0 k l1 a2 a3 true l0_0 l0_1))
theorem shares_net_holds.mono_l:∀ k,(∀ y0 y1 y2 y3 y4 y5,LeO (shares_net_holds.j0 k y0 y1 y2 y3 y4 y5) (shares_net_holds.j0 (k + 1) y0 y1 y2 y3 y4 y5)) ∧ (∀ y0 y1 y2 y3 y4 y5 y6,LeO (shares_net_holds.l0 k y0 y1 y2 y3 y4 y5 y6) (shares_net_holds.l0 (k + 1) y0 y1 y2 y3 y4 y5 y6))
 | 0=>⟨fun _ _ _ _ _ _ r h=>by simp [shares_net_holds.j0] at h,fun _ _ _ _ _ _ _ r h=>by simp [shares_net_holds.l0] at h⟩
 | k + 1=>by
  obtain ⟨ih0,ih1⟩:=shares_net_holds.mono_l k
  refine ⟨?_,?_⟩
  ·intro y0 y1 y2 y3 y4 y5
   unfold shares_net_holds.j0
   repeat' first
   | (with_reducible first | exact ih0 _ _ _ _ _ _ | exact ih1 _ _ _ _ _ _ _ | exact shares_compare.mono _ _ _ _ _ | exact shares_net_has.mono _ _ _ _ _ | exact shares_net_level.mono _ _ _ _ _ | exact shares_net_load.mono _ _ _ _ _ | exact LeO.refl _ | exact LeO.none _ | refine LeO.ite ?_ ?_ | refine LeO.bind ?_ (fun _=>?_))
   | exact LeO.none _ | refine LeO.ite ?_ ?_ | refine LeO.bind ?_ (fun _=>?_)
  intro y0 y1 y2 y3 y4 y5 y6
  unfold shares_net_holds.l0
  repeat' first
  | (with_reducible first | exact ih0 _ _ _ _ _ _ | exact ih1 _ _ _ _ _ _ _ | exact shares_compare.mono _ _ _ _ _ | exact shares_net_has.mono _ _ _ _ _ | exact shares_net_level.mono _ _ _ _ _ | exact shares_net_load.mono _ _ _ _ _ | exact LeO.refl _ | exact LeO.none _ | refine LeO.ite ?_ ?_ | refine LeO.bind ?_ (fun _=>?_))
  | exact LeO.none _ | refine LeO.ite ?_ ?_ | refine LeO.bind ?_ (fun _=>?_)
theorem shares_net_holds.mono:∀ a0 a1 a2 a3 a4 k,LeO (shares_net_holds.f k a0 a1 a2 a3 a4) (shares_net_holds.f (k + 1) a0 a1 a2 a3 a4):=by
 intro a0 a1 a2 a3 a4 k
 obtain ⟨ih0,ih1⟩:=shares_net_holds.mono_l k
 unfold shares_net_holds.f
 repeat' first
   | (with_reducible first | exact ih0 _ _ _ _ _ _ | exact ih1 _ _ _ _ _ _ _ | exact shares_compare.mono _ _ _ _ _ | exact shares_net_has.mono _ _ _ _ _ | exact shares_net_level.mono _ _ _ _ _ | exact shares_net_load.mono _ _ _ _ _ | exact LeO.refl _ | exact LeO.none _ | refine LeO.ite ?_ ?_ | refine LeO.bind ?_ (fun _=>?_))
   | exact LeO.none _ | refine LeO.ite ?_ ?_ | refine LeO.bind ?_ (fun _=>?_)
def shares_net_holds.T1:Bool × List (List Nat × List Nat):=(true,[([],[]),([],[]),([1],[1]),([2],[2]),([3],[3]),([0,4],[0,4]),([5],[5]),([6,5],[6]),([7],[7]),([7],[7]),([7],[7]),([8,9,10,7,7],[7,8,9,10]),([11,7],[7,11]),([7,12],[7,12]),([13,11],[13]),([14],[14]),([14],[14]),([14],[14]),([15,16,17,14,14],[14,15,16,17]),([14],[14]),([19,14],[14,19]),([14],[14]),([20,21,14],[14,20,21]),([22,14],[14,22]),([23,18,14],[14,23]),([18,24,14],[14,18,24]),([14,25],[14,25])])
def shares_net_holds.B1:List Nat:=[0,0,2,6,14,31,63,127,255,255,255,2047,4095,8191,16383,32767,32767,32767,262143,32767,557055,32767,3702783,7897087,16777215,33554431,67108863]
theorem shares_net_holds.tab1:rtab .any (opsOf Try.f76 1) = shares_net_holds.T1:=by kernel_rfl
theorem shares_net_holds.bits1:waitsOk shares_net_holds.T1.2 shares_net_holds.B1 = true:=by kernel_rfl
def shares_net_holds.T6:Bool × List (List Nat × List Nat):=(true,[([],[]),([],[]),([],[]),([0,1,2],[0,1,2]),([3,3],[3]),([4],[4]),([4],[4]),([4],[4]),([5,6,7,4,4],[4,5,6,7]),([4],[4]),([4],[4]),([4],[4]),([9,10,11,8,4],[4,9,10,11]),([8,12,12,4],[4,8,12]),([13,4],[4,13]),([4,14],[4,14])])
def shares_net_holds.B6:List Nat:=[0,0,0,7,15,31,31,31,255,31,31,31,4095,8191,16383,32767]
theorem shares_net_holds.tab6:rtab .any (opsOf Try.f76 6) = shares_net_holds.T6:=by kernel_rfl
theorem shares_net_holds.bits6:waitsOk shares_net_holds.T6.2 shares_net_holds.B6 = true:=by kernel_rfl
theorem shares_net_holds.calls (k:Nat) (A0_0:Option Addr) (c0_0:Nat) (l0_0:List Int) (A0_1:Option Addr) (c0_1:Nat) (l0_1:List (S45)) (A1:Option Addr) (c1:Nat) (l1:List (S23)) (a2:Int) (a3:Int) (r:Bool) (w:World) (hr0_0:Kd.C (Kd.int .i64) w A0_0 l0_0.length l0_0) (hc0_0:l0_0.length ≤ c0_0) (hr0_1:Kd.C k45 w A0_1 l0_1.length l0_1) (hc0_1:l0_1.length ≤ c0_1) (hr1:Kd.C k23 w A1 l1.length l1) (hc1:l1.length ≤ c1) (h:shares_net_holds.f k l0_0 l0_1 l1 a2 a3 = some r) :
  Calls Try.prog 76 #[.agg #[.slice A0_0 l0_0.length c0_0,.slice A0_1 l0_1.length c0_1],.slice A1 l1.length c1,.int .i64 a2,.int .i64 a3] w fun e w'=>e = .returned (.bool r) ∧ Below w.heap.size w w':=by
 have hu109:=Try.underlying109
 have HR0_0:=A_ hr0_0
 have HC0_0:=A_ hc0_0
 clear hr0_0 hc0_0
 have HR0_1:=A_ hr0_1
 have HC0_1:=A_ hc0_1
 clear hr0_1 hc0_1
 have HR1:=A_ hr1
 have HC1:=A_ hc1
 clear hr1 hc1
 have HB:=A_ (Below.refl w.heap.size w)
 have H:((shares_within.f a2 0 (wrap64 ((l0_0.length:Int) - 1))).bind fun t281=>(if t281 = true then ((shares_net_has.f k l0_0 l0_1 a3 a2).bind fun t282=>(if t282 = true then ((shares_net_load.f k l0_0 l0_1 l1 a2).bind fun bt283=>(if 0 ≤ a2 then (if a2 < (l0_0.length:Int) then ((shares_whole.f (rd l0_0 a2)).bind fun bt286=>(shares_net_holds.j0 k l1 a2 a3 (!(bt283.1 == bt286.1) || (!(bt283.2 == bt286.2))) l0_0 l0_1)) else (none)) else (none))) else (shares_net_holds.j0 k l1 a2 a3 true l0_0 l0_1))) else (shares_net_holds.j0 k l1 a2 a3 true l0_0 l0_1))) = some r:=h
 clear h
 have HC5:=A_ H
 clear H
 go_enter Try.func76,Try.ntmps76
 go_upto_region 1 with (first | ((with_reducible refine gate_dst (N:=4) rfl ?_);refine bx 4 #[.slice A0_0 l0_0.length c0_0,.slice A0_1 l0_1.length c0_1] 109 ?_;intro gb280 hg w6 hbox hb;have BK280:=A_ hbox;have GW280:=gw hg HB;have GE280:=GW280;replace HB:=bB HB hb;clear hb hbox hg))
 (try simp only [Act.put,List.setIfInBounds_toArray,List.set_cons_zero,List.set_cons_succ])
 go_cut [36] (fun v36 wc=>∃ (kq:Nat) (x36_4:Bool),v36 = .bool x36_4 ∧ Aside0 (shares_net_holds.j0 kq l1 a2 a3 x36_4 l0_0 l0_1 = some r) ∧ Aside0 (kq ≤ k) ∧ Aside0 (wc.heap[gb280]? = some (.cells #[(.slice A0_0 l0_0.length c0_0),(.slice A0_1 l0_1.length c0_1)] 109 (0,0))) ∧ Aside0 (Below w.heap.size w wc))
 case first =>
  have H:=HC5.out
  clear HC5
  replace H:=Option.bind_eq_some_iff.mp H
  obtain ⟨t281,A70,H⟩:=H
  replace H:(if t281 = true then ((shares_net_has.f k l0_0 l0_1 a3 a2).bind fun t282=>(if t282 = true then ((shares_net_load.f k l0_0 l0_1 l1 a2).bind fun bt283=>(if 0 ≤ a2 then (if a2 < (l0_0.length:Int) then ((shares_whole.f (rd l0_0 a2)).bind fun bt286=>(shares_net_holds.j0 k l1 a2 a3 (!(bt283.1 == bt286.1) || (!(bt283.2 == bt286.2))) l0_0 l0_1)) else (none)) else (none))) else (shares_net_holds.j0 k l1 a2 a3 true l0_0 l0_1))) else (shares_net_holds.j0 k l1 a2 a3 true l0_0 l0_1)) = some r:=H
  have A7:=A_ A70
  clear A70
  by_cases c8:t281 = true
  case neg =>
   replace c8:=Bool.eq_false_iff.mpr c8
   subst c8
   rw [if_neg (show ¬ (false = true) by decide)] at H
   have H':=A_ H
   clear H
   try go_wp2
   replace BK280:=kD BK280
   replace HB:=bD HB
   refine st 27 (fun w'=>w'.cell? ⟨gb280,0,none⟩ = some (.slice A0_0 l0_0.length c0_0) ∧ w'.cell? ⟨gb280,1,none⟩ = some (.slice A0_1 l0_1.length c0_1)) [] shares_net_holds.tab1 shares_net_holds.bits1 (fun hHeld HT_ HW_=>?_)
   generalize w6.drew = w21 at BK280 HB hHeld ⊢
   refine pq 0 10 1 HT_ ?_
   refine pq 1 11 3 HT_ ?_
   refine tq 2 12 7 HT_ HW_ hHeld ?_
   refine pq 3 13 15 HT_ ?_
   refine pq 4 14 31 HT_ ?_
   refine oq 5 15 63 HT_ (fun K hK=>?_)
   refine gq Try.func92 #[.int .i64 a2,.int .i64 0,.int .i64 (wrap64 ((l0_0.length:Int) - 1))] ?_
   with_reducible refine (shares_within.calls a2 0 (wrap64 ((l0_0.length:Int) - 1)) false _ A7.out).mono ?_
   rintro e w' ⟨rfl,⟨nd,rfl⟩⟩
   refine ⟨_,rfl,?_⟩
   refine hz hK (fun hHeld=>?_)
   clear hK K
   refine nq 15 ?_
   refine pq 6 16 127 HT_ ?_
   refine pq 7 17 255 HT_ ?_
   refine pu 8 18 511 HT_ ?_
   refine pu 9 19 1023 HT_ ?_
   refine pu 10 20 2047 HT_ ?_
   refine pu 11 21 4095 HT_ ?_
   refine pu 12 22 8191 HT_ ?_
   refine pq 13 23 16383 HT_ ?_
   refine pq 14 24 32767 HT_ ?_
   refine pu 15 25 65535 HT_ ?_
   refine pu 16 26 131071 HT_ ?_
   refine pu 17 27 262143 HT_ ?_
   refine pu 18 28 524287 HT_ ?_
   refine pu 19 29 1048575 HT_ ?_
   refine pu 20 30 2097151 HT_ ?_
   refine pu 21 31 4194303 HT_ ?_
   refine pu 22 32 8388607 HT_ ?_
   refine pu 23 33 16777215 HT_ ?_
   refine pu 24 34 33554431 HT_ ?_
   refine pu 25 35 67108863 HT_ ?_
   refine pq 26 36 134217727 HT_ ?_
   refine done_ (done_of HT_.out (by kernel_rfl)) ?_
   try go_wp2
   go_meet
   case rel=>exact ⟨_,(true),rfl,H',⟨by first | omega | exact Nat.le_refl _⟩,⟨by exact BK280.out⟩,⟨bl HB⟩⟩
  subst c8
  rw [if_pos rfl] at H
  replace H:=Option.bind_eq_some_iff.mp H
  obtain ⟨t282,A90,H⟩:=H
  replace H:(if t282 = true then ((shares_net_load.f k l0_0 l0_1 l1 a2).bind fun bt283=>(if 0 ≤ a2 then (if a2 < (l0_0.length:Int) then ((shares_whole.f (rd l0_0 a2)).bind fun bt286=>(shares_net_holds.j0 k l1 a2 a3 (!(bt283.1 == bt286.1) || (!(bt283.2 == bt286.2))) l0_0 l0_1)) else (none)) else (none))) else (shares_net_holds.j0 k l1 a2 a3 true l0_0 l0_1)) = some r:=H
  have A9:=A_ A90
  clear A90
  by_cases c10:t282 = true
  case neg =>
   replace c10:=Bool.eq_false_iff.mpr c10
   subst c10
   rw [if_neg (show ¬ (false = true) by decide)] at H
   have H':=A_ H
   clear H
   try go_wp2
   replace BK280:=kD BK280
   replace HB:=bD HB
   refine st 27 (fun w'=>w'.cell? ⟨gb280,0,none⟩ = some (.slice A0_0 l0_0.length c0_0) ∧ w'.cell? ⟨gb280,1,none⟩ = some (.slice A0_1 l0_1.length c0_1)) [] shares_net_holds.tab1 shares_net_holds.bits1 (fun hHeld HT_ HW_=>?_)
   generalize w6.drew = w19 at BK280 HB hHeld ⊢
   refine pq 0 10 1 HT_ ?_
   refine pq 1 11 3 HT_ ?_
   refine tq 2 12 7 HT_ HW_ hHeld ?_
   refine pq 3 13 15 HT_ ?_
   refine pq 4 14 31 HT_ ?_
   refine oq 5 15 63 HT_ (fun K hK=>?_)
   refine gq Try.func92 #[.int .i64 a2,.int .i64 0,.int .i64 (wrap64 ((l0_0.length:Int) - 1))] ?_
   with_reducible refine (shares_within.calls a2 0 (wrap64 ((l0_0.length:Int) - 1)) true _ A7.out).mono ?_
   rintro e w' ⟨rfl,⟨nd,rfl⟩⟩
   refine ⟨_,rfl,?_⟩
   refine hz hK (fun hHeld=>?_)
   clear hK K
   refine nq 15 ?_
   refine pq 6 16 127 HT_ ?_
   refine pq 7 17 255 HT_ ?_
   refine pq 9 19 767 HT_ ?_
   refine pq 10 20 1791 HT_ ?_
   refine tq 8 18 2047 HT_ HW_ hHeld ?_
   refine oq 11 21 4095 HT_ (fun K hK=>?_)
   refine gq Try.func104 #[.agg #[.slice A0_0 l0_0.length c0_0,.slice A0_1 l0_1.length c0_1],.int .i64 a3,.int .i64 a2] ?_
   with_reducible refine (shares_net_has.calls k _ _ l0_0 _ _ l0_1 a3 a2 false _ ?side1 ?side2 ?side3 ?side4 A9.out).mono ?_
   (case side1=>exact cB HR0_0 HB)
   (case side2=>exact HC0_0.out)
   (case side3=>exact cB HR0_1 HB)
   (case side4=>exact HC0_1.out)
   rintro e w20 ⟨rfl,hb⟩
   refine ⟨_,rfl,?_⟩
   replace BK280:=kB BK280 hb
   replace HB:=bB HB hb
   (try clear hb)
   refine hz hK (fun hHeld=>?_)
   clear hK K
   refine nq 21 ?_
   refine pq 12 22 8191 HT_ ?_
   refine pq 13 23 16383 HT_ ?_
   refine pq 14 24 32767 HT_ ?_
   refine pu 15 25 65535 HT_ ?_
   refine pu 16 26 131071 HT_ ?_
   refine pu 17 27 262143 HT_ ?_
   refine pu 18 28 524287 HT_ ?_
   refine pu 19 29 1048575 HT_ ?_
   refine pu 20 30 2097151 HT_ ?_
   refine pu 21 31 4194303 HT_ ?_
   refine pu 22 32 8388607 HT_ ?_
   refine pu 23 33 16777215 HT_ ?_
   refine pu 24 34 33554431 HT_ ?_
   refine pu 25 35 67108863 HT_ ?_
   refine pq 26 36 134217727 HT_ ?_
   refine done_ (done_of HT_.out (by kernel_rfl)) ?_
   try go_wp2
   go_meet
   case rel=>exact ⟨_,(true),rfl,H',⟨by first | omega | exact Nat.le_refl _⟩,⟨by exact BK280.out⟩,⟨bl HB⟩⟩
  subst c10
  rw [if_pos rfl] at H
  replace H:=Option.bind_eq_some_iff.mp H
  obtain ⟨⟨t283,t284⟩,A110,H⟩:=H
  dsimp only at H
  have A11:=A_ A110
  clear A110
  replace H:=gd H
  obtain ⟨c12,H⟩:=H
  have c12b0:=decide_eq_true c12
  clear c12
  (first | rw [c12b0] | (simp only [i64_w,i32_w];rw [c12b0]) | skip)
  replace H:=gd H
  obtain ⟨c13,H⟩:=H
  have c13b0:=decide_eq_true c13
  clear c13
  replace H:=Option.bind_eq_some_iff.mp H
  obtain ⟨⟨t286,t287⟩,A140,H⟩:=H
  dsimp only at H
  have A14:=A_ A140
  clear A140
  have H':=A_ H
  clear H
  try go_wp2
  replace BK280:=kD BK280
  replace HB:=bD HB
  have p285:0 ≤ (a2:Int):=of_decide_eq_true (by assumption)
  have q285:a2 < (l0_0.length:Int):=of_decide_eq_true (by assumption)
  obtain ⟨ad285,e285,hx285_0⟩:=Kd.at_int HR0_0.out a2 p285 q285
  have hw285_0:=hx285_0
  cases e285
  replace hx285_0:=(HB.out.cell (World.block_lt_of_cell? w _ hx285_0)).trans hx285_0
  replace p285:=eq_true p285
  replace q285:=eq_true q285
  refine start_ (n:=27) (S:=fun w'=>w'.cell? ⟨gb280,0,none⟩ = some (.slice (some ad285) l0_0.length c0_0) ∧ w'.cell? ⟨gb280,1,none⟩ = some (.slice A0_1 l0_1.length c0_1) ∧ w'.cell? (ad285.add (a2).toNat) = some (.int .i64 (rd l0_0 a2))) (ds:=[]) (ba 27 0) (by kernel_rfl) rfl rfl ⟨cz BK280 0,cz BK280 1,((HB.out.cell (World.block_lt_of_cell? w _ hw285_0)).trans hw285_0)⟩ (fun hHeld=>?_);refine with_tabW shares_net_holds.tab1 shares_net_holds.bits1 (fun HT_ HW_=>?_)
  generalize w6.drew = w15 at BK280 HB hx285_0 hHeld ⊢
  refine pq 0 10 1 HT_ ?_
  refine pq 1 11 3 HT_ ?_
  refine tq 2 12 7 HT_ HW_ hHeld ?_
  refine pq 3 13 15 HT_ ?_
  refine pq 4 14 31 HT_ ?_
  refine oq 5 15 63 HT_ (fun K hK=>?_)
  refine gq Try.func92 #[.int .i64 a2,.int .i64 0,.int .i64 (wrap64 ((l0_0.length:Int) - 1))] ?_
  with_reducible refine (shares_within.calls a2 0 (wrap64 ((l0_0.length:Int) - 1)) true _ A7.out).mono ?_
  rintro e w' ⟨rfl,⟨nd,rfl⟩⟩
  refine ⟨_,rfl,?_⟩
  refine hK.out _ _ ⟨cz BK280 0,cz BK280 1,((HB.out.cell (World.block_lt_of_cell? w _ hw285_0)).trans hw285_0)⟩ (fun hHeld=>?_)
  clear hK K
  refine nq 15 ?_
  refine pq 6 16 127 HT_ ?_
  refine pq 7 17 255 HT_ ?_
  refine pq 9 19 767 HT_ ?_
  refine pq 10 20 1791 HT_ ?_
  refine tq 8 18 2047 HT_ HW_ hHeld ?_
  refine oq 11 21 4095 HT_ (fun K hK=>?_)
  refine gq Try.func104 #[.agg #[.slice (some ad285) l0_0.length c0_0,.slice A0_1 l0_1.length c0_1],.int .i64 a3,.int .i64 a2] ?_
  with_reducible refine (shares_net_has.calls k _ _ l0_0 _ _ l0_1 a3 a2 true _ ?side1 ?side2 ?side3 ?side4 A9.out).mono ?_
  (case side1=>exact cB HR0_0 HB)
  (case side2=>exact HC0_0.out)
  (case side3=>exact cB HR0_1 HB)
  (case side4=>exact HC0_1.out)
  rintro e w16 ⟨rfl,hb⟩
  refine ⟨_,rfl,?_⟩
  replace BK280:=kB BK280 hb
  replace HB:=bB HB hb
  (try clear hb)
  refine hK.out _ _ ⟨cz BK280 0,cz BK280 1,((HB.out.cell (World.block_lt_of_cell? w _ hw285_0)).trans hw285_0)⟩ (fun hHeld=>?_)
  clear hK K
  refine nq 21 ?_
  refine pq 12 22 8191 HT_ ?_
  refine pq 13 23 16383 HT_ ?_
  refine pq 14 24 32767 HT_ ?_
  refine pq 16 26 98303 HT_ ?_
  refine pq 17 27 229375 HT_ ?_
  refine pq 19 29 753663 HT_ ?_
  refine pq 21 31 2850815 HT_ ?_
  refine tq 15 25 2883583 HT_ HW_ hHeld ?_
  refine tq 20 30 3932159 HT_ HW_ hHeld ?_
  refine pq 22 32 8126463 HT_ ?_
  refine tq 23 33 16515071 HT_ HW_ hHeld ?_
  refine oq 18 28 16777215 HT_ (fun K hK=>?_)
  refine gq Try.func107 #[.agg #[.slice (some ad285) l0_0.length c0_0,.slice A0_1 l0_1.length c0_1],.slice A1 l1.length c1,.int .i64 a2] ?_
  with_reducible refine (shares_net_load.calls k _ _ l0_0 _ _ l0_1 _ _ l1 a2 t283 t284 _ ?side1 ?side2 ?side3 ?side4 ?side5 ?side6 A11.out).mono ?_
  (case side1=>exact cB HR0_0 HB)
  (case side2=>exact HC0_0.out)
  (case side3=>exact cB HR0_1 HB)
  (case side4=>exact HC0_1.out)
  (case side5=>exact cB HR1 HB)
  (case side6=>exact HC1.out)
  rintro e w17 ⟨rfl,hb⟩
  refine ⟨_,rfl,?_⟩
  replace BK280:=kB BK280 hb
  replace HB:=bB HB hb
  (try clear hb)
  refine hK.out _ _ ⟨cz BK280 0,cz BK280 1,((HB.out.cell (World.block_lt_of_cell? w _ hw285_0)).trans hw285_0)⟩ (fun hHeld=>?_)
  clear hK K
  refine nq 28 ?_
  refine oq 24 34 33554431 HT_ (fun K hK=>?_)
  refine gq Try.func64 #[.int .i64 (rd l0_0 a2)] ?_
  with_reducible refine (shares_whole.calls (rd l0_0 a2) t286 t287 _ A14.out).mono ?_
  rintro e w18 ⟨rfl,hb⟩
  refine ⟨_,rfl,?_⟩
  replace BK280:=kB BK280 hb
  replace HB:=bB HB hb
  (try clear hb)
  refine hK.out _ _ ⟨cz BK280 0,cz BK280 1,((HB.out.cell (World.block_lt_of_cell? w _ hw285_0)).trans hw285_0)⟩ (fun hHeld=>?_)
  clear hK K
  refine nq 34 ?_
  refine pq 25 35 67108863 HT_ ?_
  refine pq 26 36 134217727 HT_ ?_
  refine done_ (done_of HT_.out (by kernel_rfl)) ?_
  try go_wp2
  go_meet
  case rel=>exact ⟨_,((!(t283 == t286) || (!(t284 == t287)))),rfl,H',⟨by first | omega | exact Nat.le_refl _⟩,⟨by exact BK280.out⟩,⟨bl HB⟩⟩
 case rest =>
  clear HC5
  obtain ⟨kq,x36_4,rfl,HA,HJ4,BK280,HB⟩:=hcut
  cases kq with
  | zero=>exact absurd HA.out (by simp [shares_net_holds.j0])
  | succ kj4 =>
   have H:=HA.out
   clear HA
   simp only [shares_net_holds.j0] at H
   by_cases c22:x36_4 = true
   ·subst c22
    rw [if_pos rfl] at H
    obtain rfl:=Option.some.inj H
    go_wp2
    go_ret
    exact ⟨rfl,bl HB⟩
   replace c22:=Bool.eq_false_iff.mpr c22
   subst c22
   rw [if_neg (show ¬ (false = true) by decide)] at H
   have H':=A_ H
   clear H
   have hcz23_0:wc.cell? ⟨gb280,0,none⟩ = some (.slice A0_0 l0_0.length c0_0):=cz BK280 0
   have hcz23_1:wc.cell? ⟨gb280,1,none⟩ = some (.slice A0_1 l0_1.length c0_1):=cz BK280 1
   have hfz23_0:=blk_frozen BK280.out 0
   have hfz23_1:=blk_frozen BK280.out 1
   go_wp2
   go_loopg [40] kj4 (fun kq v40 w'=>∃ (x40_2:Int),v40 = .int .i64 x40_2 ∧ Aside0 (shares_net_holds.l0 kq l1 a2 a3 (l0_1.length:Int) x40_2 l0_0 l0_1 = some r) ∧ Aside0 (kq ≤ kj4) ∧ Aside0 (w'.heap[gb280]? = some (.cells #[(.slice A0_0 l0_0.length c0_0),(.slice A0_1 l0_1.length c0_1)] 109 (0,0))) ∧ Aside0 (Below w.heap.size w w'))
   case atStart=>exact ⟨(0),rfl,H',⟨Nat.le_refl _⟩,⟨by exact BK280.out⟩,⟨bl HB⟩⟩
   case round =>
    clear H'
    obtain ⟨x40_2,rfl,HA,HK2,BK280,HB⟩:=hrel
    cases gk with
    | zero=>exact absurd HA.out (by simp [shares_net_holds.l0])
    | succ k2 =>
     have H:=HA.out
     clear HA
     simp only [shares_net_holds.l0] at H
     by_cases c24:x40_2 < (l0_1.length:Int)
     case neg =>
      rw [if_neg c24] at H
      have c24b0:=decide_eq_false c24
      clear c24
      obtain rfl:=Option.some.inj H
      go_wp2
      go_ret
      exact ⟨rfl,bl HB⟩
     rw [if_pos c24] at H
     have c24b0:=decide_eq_true c24
     clear c24
     replace H:=Option.bind_eq_some_iff.mp H
     obtain ⟨t288,A250,H⟩:=H
     replace H:(if t288 = true then ((shares_net_level.f k2 l0_0 l0_1 l1 x40_2).bind fun bt289=>((shares_net_level.f k2 l0_0 l0_1 l1 a3).bind fun bt291=>((shares_compare.f k2 bt289.1 bt289.2 bt291.1 bt291.2).bind fun t293=>(if t293 > 0 then (some false) else (shares_net_holds.l0 k2 l1 a2 a3 (l0_1.length:Int) (wrap64 (x40_2 + 1)) l0_0 l0_1))))) else (shares_net_holds.l0 k2 l1 a2 a3 (l0_1.length:Int) (wrap64 (x40_2 + 1)) l0_0 l0_1)) = some r:=H
     have A25:=A_ A250
     clear A250
     by_cases c26:t288 = true
     case neg =>
      replace c26:=Bool.eq_false_iff.mpr c26
      subst c26
      rw [if_neg (show ¬ (false = true) by decide)] at H
      have H':=A_ H
      clear H
      try go_wp2
      replace BK280:=kD BK280
      replace HB:=bD HB
      refine st 16 (fun w'=>w'.cell? ⟨gb280,0,none⟩ = some (.slice A0_0 l0_0.length c0_0) ∧ w'.cell? ⟨gb280,1,none⟩ = some (.slice A0_1 l0_1.length c0_1)) [] shares_net_holds.tab6 shares_net_holds.bits6 (fun hHeld HT_ HW_=>?_)
      generalize wr.drew = w41 at BK280 HB hHeld ⊢
      refine pq 1 44 2 HT_ ?_
      refine pq 2 45 6 HT_ ?_
      refine tq 0 43 7 HT_ HW_ hHeld ?_
      refine oq 3 46 15 HT_ (fun K hK=>?_)
      refine gq Try.func104 #[.agg #[.slice A0_0 l0_0.length c0_0,.slice A0_1 l0_1.length c0_1],.int .i64 x40_2,.int .i64 a2] ?_
      with_reducible refine (shares_net_has.calls k2 _ _ l0_0 _ _ l0_1 x40_2 a2 false _ ?side1 ?side2 ?side3 ?side4 A25.out).mono ?_
      (case side1=>exact cB HR0_0 HB)
      (case side2=>exact HC0_0.out)
      (case side3=>exact cB HR0_1 HB)
      (case side4=>exact HC0_1.out)
      rintro e w42 ⟨rfl,hb⟩
      refine ⟨_,rfl,?_⟩
      replace BK280:=kB BK280 hb
      replace HB:=bB HB hb
      (try clear hb)
      refine hz hK (fun hHeld=>?_)
      clear hK K
      refine nq 46 ?_
      refine pq 4 47 31 HT_ ?_
      refine pu 5 48 63 HT_ ?_
      refine pu 6 49 127 HT_ ?_
      refine pu 7 50 255 HT_ ?_
      refine pu 8 51 511 HT_ ?_
      refine pu 9 52 1023 HT_ ?_
      refine pu 10 53 2047 HT_ ?_
      refine pu 11 54 4095 HT_ ?_
      refine pu 12 55 8191 HT_ ?_
      refine pu 13 56 16383 HT_ ?_
      refine pu 14 57 32767 HT_ ?_
      refine pq 15 58 65535 HT_ ?_
      refine done_ (done_of HT_.out (by kernel_rfl)) ?_
      try go_wp2
      go_roundg k2
      case measure=>have:=HJ4.out;have:=HK2.out;omega
      case rel=>exact ⟨(wrap64 (x40_2 + 1)),rfl,H',⟨by have:=HJ4.out;have:=HK2.out;omega⟩,⟨by exact BK280.out⟩,⟨bl HB⟩⟩
     subst c26
     rw [if_pos rfl] at H
     replace H:=Option.bind_eq_some_iff.mp H
     obtain ⟨⟨t289,t290⟩,A270,H⟩:=H
     dsimp only at H
     have A27:=A_ A270
     clear A270
     replace H:=Option.bind_eq_some_iff.mp H
     obtain ⟨⟨t291,t292⟩,A280,H⟩:=H
     dsimp only at H
     have A28:=A_ A280
     clear A280
     replace H:=Option.bind_eq_some_iff.mp H
     obtain ⟨t293,A290,H⟩:=H
     replace H:(if t293 > 0 then (some false) else (shares_net_holds.l0 k2 l1 a2 a3 (l0_1.length:Int) (wrap64 (x40_2 + 1)) l0_0 l0_1)) = some r:=H
     have A29:=A_ A290
     clear A290
     by_cases c30:t293 > 0
     ·rw [if_pos c30] at H
      have c30b0:=decide_eq_true c30
      clear c30
      obtain rfl:=Option.some.inj H
      try go_wp2
      replace BK280:=kD BK280
      replace HB:=bD HB
      refine st 16 (fun w'=>w'.cell? ⟨gb280,0,none⟩ = some (.slice A0_0 l0_0.length c0_0) ∧ w'.cell? ⟨gb280,1,none⟩ = some (.slice A0_1 l0_1.length c0_1)) [] shares_net_holds.tab6 shares_net_holds.bits6 (fun hHeld HT_ HW_=>?_)
      generalize wr.drew = w31 at BK280 HB hHeld ⊢
      refine pq 1 44 2 HT_ ?_
      refine pq 2 45 6 HT_ ?_
      refine tq 0 43 7 HT_ HW_ hHeld ?_
      refine oq 3 46 15 HT_ (fun K hK=>?_)
      refine gq Try.func104 #[.agg #[.slice A0_0 l0_0.length c0_0,.slice A0_1 l0_1.length c0_1],.int .i64 x40_2,.int .i64 a2] ?_
      with_reducible refine (shares_net_has.calls k2 _ _ l0_0 _ _ l0_1 x40_2 a2 true _ ?side1 ?side2 ?side3 ?side4 A25.out).mono ?_
      (case side1=>exact cB HR0_0 HB)
      (case side2=>exact HC0_0.out)
      (case side3=>exact cB HR0_1 HB)
      (case side4=>exact HC0_1.out)
      rintro e w32 ⟨rfl,hb⟩
      refine ⟨_,rfl,?_⟩
      replace BK280:=kB BK280 hb
      replace HB:=bB HB hb
      (try clear hb)
      refine hz hK (fun hHeld=>?_)
      clear hK K
      refine nq 46 ?_
      refine pq 4 47 31 HT_ ?_
      refine pq 6 49 95 HT_ ?_
      refine pq 7 50 223 HT_ ?_
      refine pq 10 53 1247 HT_ ?_
      refine pq 11 54 3295 HT_ ?_
      refine tq 5 48 3327 HT_ HW_ hHeld ?_
      refine tq 9 52 3839 HT_ HW_ hHeld ?_
      refine oq 8 51 4095 HT_ (fun K hK=>?_)
      refine gq Try.func108 #[.agg #[.slice A0_0 l0_0.length c0_0,.slice A0_1 l0_1.length c0_1],.slice A1 l1.length c1,.int .i64 x40_2] ?_
      with_reducible refine (shares_net_level.calls k2 _ _ l0_0 _ _ l0_1 _ _ l1 x40_2 t289 t290 _ ?side1 ?side2 ?side3 ?side4 ?side5 ?side6 A27.out).mono ?_
      (case side1=>exact cB HR0_0 HB)
      (case side2=>exact HC0_0.out)
      (case side3=>exact cB HR0_1 HB)
      (case side4=>exact HC0_1.out)
      (case side5=>exact cB HR1 HB)
      (case side6=>exact HC1.out)
      rintro e w33 ⟨rfl,hb⟩
      refine ⟨_,rfl,?_⟩
      replace BK280:=kB BK280 hb
      replace HB:=bB HB hb
      (try clear hb)
      refine hz hK (fun hHeld=>?_)
      clear hK K
      refine nq 51 ?_
      refine oq 12 55 8191 HT_ (fun K hK=>?_)
      refine gq Try.func108 #[.agg #[.slice A0_0 l0_0.length c0_0,.slice A0_1 l0_1.length c0_1],.slice A1 l1.length c1,.int .i64 a3] ?_
      with_reducible refine (shares_net_level.calls k2 _ _ l0_0 _ _ l0_1 _ _ l1 a3 t291 t292 _ ?side1 ?side2 ?side3 ?side4 ?side5 ?side6 A28.out).mono ?_
      (case side1=>exact cB HR0_0 HB)
      (case side2=>exact HC0_0.out)
      (case side3=>exact cB HR0_1 HB)
      (case side4=>exact HC0_1.out)
      (case side5=>exact cB HR1 HB)
      (case side6=>exact HC1.out)
      rintro e w34 ⟨rfl,hb⟩
      refine ⟨_,rfl,?_⟩
      replace BK280:=kB BK280 hb
      replace HB:=bB HB hb
      (try clear hb)
      refine hz hK (fun hHeld=>?_)
      clear hK K
      refine nq 55 ?_
      refine oq 13 56 16383 HT_ (fun K hK=>?_)
      refine gq Try.func85 #[.agg #[.int .i64 t289,.int .i64 t290],.agg #[.int .i64 t291,.int .i64 t292]] ?_
      with_reducible refine (shares_compare.calls k2 t289 t290 t291 t292 t293 _ A29.out).mono ?_
      rintro e w35 ⟨rfl,hb⟩
      refine ⟨_,rfl,?_⟩
      replace BK280:=kB BK280 hb
      replace HB:=bB HB hb
      (try clear hb)
      refine hz hK (fun hHeld=>?_)
      clear hK K
      refine nq 56 ?_
      refine pq 14 57 32767 HT_ ?_
      refine pq 15 58 65535 HT_ ?_
      refine done_ (done_of HT_.out (by kernel_rfl)) ?_
      try go_wp2
      go_ret
      exact ⟨rfl,bl HB⟩
     rw [if_neg c30] at H
     have c30b0:=decide_eq_false c30
     clear c30
     have H':=A_ H
     clear H
     try go_wp2
     replace BK280:=kD BK280
     replace HB:=bD HB
     refine st 16 (fun w'=>w'.cell? ⟨gb280,0,none⟩ = some (.slice A0_0 l0_0.length c0_0) ∧ w'.cell? ⟨gb280,1,none⟩ = some (.slice A0_1 l0_1.length c0_1)) [] shares_net_holds.tab6 shares_net_holds.bits6 (fun hHeld HT_ HW_=>?_)
     generalize wr.drew = w36 at BK280 HB hHeld ⊢
     refine pq 1 44 2 HT_ ?_
     refine pq 2 45 6 HT_ ?_
     refine tq 0 43 7 HT_ HW_ hHeld ?_
     refine oq 3 46 15 HT_ (fun K hK=>?_)
     refine gq Try.func104 #[.agg #[.slice A0_0 l0_0.length c0_0,.slice A0_1 l0_1.length c0_1],.int .i64 x40_2,.int .i64 a2] ?_
     with_reducible refine (shares_net_has.calls k2 _ _ l0_0 _ _ l0_1 x40_2 a2 true _ ?side1 ?side2 ?side3 ?side4 A25.out).mono ?_
     (case side1=>exact cB HR0_0 HB)
     (case side2=>exact HC0_0.out)
     (case side3=>exact cB HR0_1 HB)
     (case side4=>exact HC0_1.out)
     rintro e w37 ⟨rfl,hb⟩
     refine ⟨_,rfl,?_⟩
     replace BK280:=kB BK280 hb
     replace HB:=bB HB hb
     (try clear hb)
     refine hz hK (fun hHeld=>?_)
     clear hK K
     refine nq 46 ?_
     refine pq 4 47 31 HT_ ?_
     refine pq 6 49 95 HT_ ?_
     refine pq 7 50 223 HT_ ?_
     refine pq 10 53 1247 HT_ ?_
     refine pq 11 54 3295 HT_ ?_
     refine tq 5 48 3327 HT_ HW_ hHeld ?_
     refine tq 9 52 3839 HT_ HW_ hHeld ?_
     refine oq 8 51 4095 HT_ (fun K hK=>?_)
     refine gq Try.func108 #[.agg #[.slice A0_0 l0_0.length c0_0,.slice A0_1 l0_1.length c0_1],.slice A1 l1.length c1,.int .i64 x40_2] ?_
     with_reducible refine (shares_net_level.calls k2 _ _ l0_0 _ _ l0_1 _ _ l1 x40_2 t289 t290 _ ?side1 ?side2 ?side3 ?side4 ?side5 ?side6 A27.out).mono ?_
     (case side1=>exact cB HR0_0 HB)
     (case side2=>exact HC0_0.out)
     (case side3=>exact cB HR0_1 HB)
     (case side4=>exact HC0_1.out)
     (case side5=>exact cB HR1 HB)
     (case side6=>exact HC1.out)
     rintro e w38 ⟨rfl,hb⟩
     refine ⟨_,rfl,?_⟩
     replace BK280:=kB BK280 hb
     replace HB:=bB HB hb
     (try clear hb)
     refine hz hK (fun hHeld=>?_)
     clear hK K
     refine nq 51 ?_
     refine oq 12 55 8191 HT_ (fun K hK=>?_)
     refine gq Try.func108 #[.agg #[.slice A0_0 l0_0.length c0_0,.slice A0_1 l0_1.length c0_1],.slice A1 l1.length c1,.int .i64 a3] ?_
     with_reducible refine (shares_net_level.calls k2 _ _ l0_0 _ _ l0_1 _ _ l1 a3 t291 t292 _ ?side1 ?side2 ?side3 ?side4 ?side5 ?side6 A28.out).mono ?_
     (case side1=>exact cB HR0_0 HB)
     (case side2=>exact HC0_0.out)
     (case side3=>exact cB HR0_1 HB)
     (case side4=>exact HC0_1.out)
     (case side5=>exact cB HR1 HB)
     (case side6=>exact HC1.out)
     rintro e w39 ⟨rfl,hb⟩
     refine ⟨_,rfl,?_⟩
     replace BK280:=kB BK280 hb
     replace HB:=bB HB hb
     (try clear hb)
     refine hz hK (fun hHeld=>?_)
     clear hK K
     refine nq 55 ?_
     refine oq 13 56 16383 HT_ (fun K hK=>?_)
     refine gq Try.func85 #[.agg #[.int .i64 t289,.int .i64 t290],.agg #[.int .i64 t291,.int .i64 t292]] ?_
     with_reducible refine (shares_compare.calls k2 t289 t290 t291 t292 t293 _ A29.out).mono ?_
     rintro e w40 ⟨rfl,hb⟩
     refine ⟨_,rfl,?_⟩
     replace BK280:=kB BK280 hb
     replace HB:=bB HB hb
     (try clear hb)
     refine hz hK (fun hHeld=>?_)
     clear hK K
     refine nq 56 ?_
     refine pq 14 57 32767 HT_ ?_
     refine pq 15 58 65535 HT_ ?_
     refine done_ (done_of HT_.out (by kernel_rfl)) ?_
     try go_wp2
     go_roundg k2
     case measure=>have:=HJ4.out;have:=HK2.out;omega
     case rel=>exact ⟨(wrap64 (x40_2 + 1)),rfl,H',⟨by have:=HJ4.out;have:=HK2.out;omega⟩,⟨by exact BK280.out⟩,⟨bl HB⟩⟩
end Go.Proofs.Ytjohcjfmlhihbaa.G
namespace Go.Proofs.Ytjohcjfmlhihbaa.G
open Go.RowKit Go.Proofs.YtjohcjfmlhihbaaW.PrintWords Go.Proofs.YtjohcjfmlhihbaaW.PrintLast Go.Proofs.YtjohcjfmlhihbaaW.PrintMore
set_option maxHeartbeats 8000000
set_option maxRecDepth 100000
attribute [local go_sem] cond_true cond_false fld23_0 fld23_1 fld45_0 fld45_1 fld109_0 fld109_1 fld94_0 fld94_1 max2_int min2_int max_two min_two max_three min_three max_four min_four
attribute [local go_sem high] eqA23
def shares_net_held.l0:Nat → List (S23) → Int → Int → Int → List Int → List (S45) → Option (Int)
 | 0,_,_,_,_,_,_=>none
 | k + 1,x1,x2,x10,x11,x295000,x295001=>if x11 < x10 then ((shares_net_holds.f k x295000 x295001 x1 x11 x2).bind fun t295=>(if t295 = true then (some x11) else (shares_net_held.l0 k x1 x2 x10 (wrap64 (x11 + 1)) x295000 x295001))) else (some (-1))
def shares_net_held.f (k:Nat) (l0_0:List Int) (l0_1:List (S45)) (l1:List (S23)) (a2:Int):Option (Int):=shares_net_held.l0 k l1 a2 (l0_0.length:Int) 0 l0_0 l0_1
theorem shares_net_held.mono_l:∀ k,(∀ y0 y1 y2 y3 y4 y5,LeO (shares_net_held.l0 k y0 y1 y2 y3 y4 y5) (shares_net_held.l0 (k + 1) y0 y1 y2 y3 y4 y5))
 | 0=>fun _ _ _ _ _ _ r h=>by simp [shares_net_held.l0] at h
 | k + 1=>by
  have ih0:=shares_net_held.mono_l k
  intro y0 y1 y2 y3 y4 y5
  unfold shares_net_held.l0
  repeat' first
  | (with_reducible first | exact ih0 _ _ _ _ _ _ | exact shares_net_holds.mono _ _ _ _ _ _ | exact LeO.refl _ | exact LeO.none _ | refine LeO.ite ?_ ?_ | refine LeO.bind ?_ (fun _=>?_))
  | exact LeO.none _ | refine LeO.ite ?_ ?_ | refine LeO.bind ?_ (fun _=>?_)
theorem shares_net_held.mono:∀ a0 a1 a2 a3 k,LeO (shares_net_held.f k a0 a1 a2 a3) (shares_net_held.f (k + 1) a0 a1 a2 a3):=by
 intro a0 a1 a2 a3 k
 have ih0:=shares_net_held.mono_l k
 unfold shares_net_held.f
 repeat' first
   | (with_reducible first | exact ih0 _ _ _ _ _ _ | exact shares_net_holds.mono _ _ _ _ _ _ | exact LeO.refl _ | exact LeO.none _ | refine LeO.ite ?_ ?_ | refine LeO.bind ?_ (fun _=>?_))
   | exact LeO.none _ | refine LeO.ite ?_ ?_ | refine LeO.bind ?_ (fun _=>?_)
theorem shares_net_held.calls (k:Nat) (A0_0:Option Addr) (c0_0:Nat) (l0_0:List Int) (A0_1:Option Addr) (c0_1:Nat) (l0_1:List (S45)) (A1:Option Addr) (c1:Nat) (l1:List (S23)) (a2:Int) (r:Int) (w:World) (hr0_0:Kd.C (Kd.int .i64) w A0_0 l0_0.length l0_0) (hc0_0:l0_0.length ≤ c0_0) (hr0_1:Kd.C k45 w A0_1 l0_1.length l0_1) (hc0_1:l0_1.length ≤ c0_1) (hr1:Kd.C k23 w A1 l1.length l1) (hc1:l1.length ≤ c1) (h:shares_net_held.f k l0_0 l0_1 l1 a2 = some r) :
  Calls Try.prog 72 #[.agg #[.slice A0_0 l0_0.length c0_0,.slice A0_1 l0_1.length c0_1],.slice A1 l1.length c1,.int .i64 a2] w fun e w'=>e = .returned (.int .i64 r) ∧ Below w.heap.size w w':=by
 have hu109:=Try.underlying109
 have HR0_0:=A_ hr0_0
 have HC0_0:=A_ hc0_0
 clear hr0_0 hc0_0
 have HR0_1:=A_ hr0_1
 have HC0_1:=A_ hc0_1
 clear hr0_1 hc0_1
 have HR1:=A_ hr1
 have HC1:=A_ hc1
 clear hr1 hc1
 have HB:=A_ (Below.refl w.heap.size w)
 have H:(shares_net_held.l0 k l1 a2 (l0_0.length:Int) 0 l0_0 l0_1) = some r:=h
 clear h
 have H':=A_ H
 clear H
 go_enter Try.func72,Try.ntmps72
 go_wp2_with (first | ((with_reducible refine gate_dst (N:=3) rfl ?_);refine bx 3 #[.slice A0_0 l0_0.length c0_0,.slice A0_1 l0_1.length c0_1] 109 ?_;intro gb294 hg w4 hbox hb;have BK294:=A_ hbox;have GW294:=gw hg HB;have GE294:=GW294;replace HB:=bB HB hb;clear hb hbox hg;have hcz5_0:w4.cell? ⟨gb294,0,none⟩ = some (.slice A0_0 l0_0.length c0_0):=cz BK294 0;have hcz5_1:w4.cell? ⟨gb294,1,none⟩ = some (.slice A0_1 l0_1.length c0_1):=cz BK294 1;have hfz5_0:=blk_frozen BK294.out 0;have hfz5_1:=blk_frozen BK294.out 1))
 go_loopg [11] k (fun kq v11 w'=>∃ (x11_1:Int),v11 = .int .i64 x11_1 ∧ Aside0 (shares_net_held.l0 kq l1 a2 (l0_0.length:Int) x11_1 l0_0 l0_1 = some r) ∧ Aside0 (kq ≤ k) ∧ Aside0 (w'.heap[gb294]? = some (.cells #[(.slice A0_0 l0_0.length c0_0),(.slice A0_1 l0_1.length c0_1)] 109 (0,0))) ∧ Aside0 (Below w.heap.size w w'))
 case atStart=>exact ⟨(0),rfl,H',⟨Nat.le_refl _⟩,⟨by (with_reducible repeat (first | refine blk_drewN ?_ _ | refine blk_drew ?_ | refine blk_alloc ?_ _));exact BK294.out⟩,⟨bl HB⟩⟩
 case round =>
  clear H'
  obtain ⟨x11_1,rfl,HA,HK1,BK294,HB⟩:=hrel
  cases gk with
  | zero=>exact absurd HA.out (by simp [shares_net_held.l0])
  | succ k1 =>
   have H:=HA.out
   clear HA
   simp only [shares_net_held.l0] at H
   by_cases c6:x11_1 < (l0_0.length:Int)
   case neg =>
    rw [if_neg c6] at H
    have c6b0:=decide_eq_false c6
    clear c6
    obtain rfl:=Option.some.inj H
    go_wp2
    go_ret
    exact ⟨rfl,bl HB⟩
   rw [if_pos c6] at H
   have c6b0:=decide_eq_true c6
   clear c6
   replace H:=Option.bind_eq_some_iff.mp H
   obtain ⟨t295,A70,H⟩:=H
   replace H:(if t295 = true then (some x11_1) else (shares_net_held.l0 k1 l1 a2 (l0_0.length:Int) (wrap64 (x11_1 + 1)) l0_0 l0_1)) = some r:=H
   have A7:=A_ A70
   clear A70
   by_cases c8:t295 = true
   ·subst c8
    rw [if_pos rfl] at H
    obtain rfl:=Option.some.inj H
    have hcz9_0:wr.cell? ⟨gb294,0,none⟩ = some (.slice A0_0 l0_0.length c0_0):=cz BK294 0
    have hcz9_1:wr.cell? ⟨gb294,1,none⟩ = some (.slice A0_1 l0_1.length c0_1):=cz BK294 1
    have hfz9_0:=blk_frozen BK294.out 0
    have hfz9_1:=blk_frozen BK294.out 1
    go_wp2_with (first | ((with_reducible refine gate_callee (f:=76) rfl ?_);refine gL (some 18) Try.func76 #[.agg #[.slice A0_0 l0_0.length c0_0,.slice A0_1 l0_1.length c0_1],.slice A1 l1.length c1,.int .i64 x11_1,.int .i64 a2] ?_;(with_reducible refine (shares_net_holds.calls k1 _ _ l0_0 _ _ l0_1 _ _ l1 x11_1 a2 true _ ?side1 ?side2 ?side3 ?side4 ?side5 ?side6 A7.out).mono ?_);(case side1=>exact cB HR0_0 HB);(case side2=>exact HC0_0.out);(case side3=>exact cB HR0_1 HB);(case side4=>exact HC0_1.out);(case side5=>exact cB HR1 HB);(case side6=>exact HC1.out);rintro e w10 ⟨rfl,hb⟩;refine ⟨_,rfl,?_⟩;replace BK294:=kB BK294 hb;replace HB:=bB HB hb;(try clear hb)))
    go_ret
    exact ⟨rfl,bl HB⟩
   replace c8:=Bool.eq_false_iff.mpr c8
   subst c8
   rw [if_neg (show ¬ (false = true) by decide)] at H
   have H':=A_ H
   clear H
   have hcz11_0:wr.cell? ⟨gb294,0,none⟩ = some (.slice A0_0 l0_0.length c0_0):=cz BK294 0
   have hcz11_1:wr.cell? ⟨gb294,1,none⟩ = some (.slice A0_1 l0_1.length c0_1):=cz BK294 1
   have hfz11_0:=blk_frozen BK294.out 0
   have hfz11_1:=blk_frozen BK294.out 1
   go_wp2_with (first | ((with_reducible refine gate_callee (f:=76) rfl ?_);refine gL (some 18) Try.func76 #[.agg #[.slice A0_0 l0_0.length c0_0,.slice A0_1 l0_1.length c0_1],.slice A1 l1.length c1,.int .i64 x11_1,.int .i64 a2] ?_;(with_reducible refine (shares_net_holds.calls k1 _ _ l0_0 _ _ l0_1 _ _ l1 x11_1 a2 false _ ?side1 ?side2 ?side3 ?side4 ?side5 ?side6 A7.out).mono ?_);(case side1=>exact cB HR0_0 HB);(case side2=>exact HC0_0.out);(case side3=>exact cB HR0_1 HB);(case side4=>exact HC0_1.out);(case side5=>exact cB HR1 HB);(case side6=>exact HC1.out);rintro e w12 ⟨rfl,hb⟩;refine ⟨_,rfl,?_⟩;replace BK294:=kB BK294 hb;replace HB:=bB HB hb;(try clear hb)))
   go_roundg k1
   case measure=>have:=HK1.out;omega
   case rel=>exact ⟨(wrap64 (x11_1 + 1)),rfl,H',⟨by have:=HK1.out;omega⟩,⟨by (with_reducible repeat (first | refine blk_drewN ?_ _ | refine blk_drew ?_ | refine blk_alloc ?_ _));exact BK294.out⟩,⟨bl HB⟩⟩
end Go.Proofs.Ytjohcjfmlhihbaa.G
namespace Go.Proofs.Ytjohcjfmlhihbaa.G
open Go.RowKit Go.Proofs.YtjohcjfmlhihbaaW.PrintWords Go.Proofs.YtjohcjfmlhihbaaW.PrintLast Go.Proofs.YtjohcjfmlhihbaaW.PrintMore
set_option maxHeartbeats 8000000
set_option maxRecDepth 100000
attribute [local go_sem] cond_true cond_false fld23_0 fld23_1 fld45_0 fld45_1 fld109_0 fld109_1 fld94_0 fld94_1 max2_int min2_int max_two min_two max_three min_three max_four min_four
attribute [local go_sem high] eqA23
def shares_Fair.l0:Nat → List (S23) → List Int → Int → Int → List Int → List (S45) → Option ((List (S23)) × List Int × Int)
 | 0,_,_,_,_,_,_=>none
 | k + 1,x9,x10,x23,x24,x298000,x298001=>if x24 < x23 then ((shares_net_held.f k x298000 x298001 x9 x24).bind fun t301=>(if x10.length < 17592186044416 then (shares_Fair.l0 k x9 (x10 ++ [t301]) x23 (wrap64 (x24 + 1)) x298000 x298001) else (none))) else (some (x9,x10,0))
def shares_Fair.f (k:Nat) (l0:List Int) (l1:List (S45)):Option ((List (S23)) × List Int × Int):=(shares_newNet.f k l0 l1).bind fun t296=>(if t296 = true then ((shares_net_fair.f k l0 l1).bind fun t298=>(shares_Fair.l0 k t298 ([]:List Int) (l1.length:Int) 0 l0 l1)) else (some (([]:List (S23)),([]:List Int),2)))
theorem shares_Fair.mono_l:∀ k,(∀ y0 y1 y2 y3 y4 y5,LeO (shares_Fair.l0 k y0 y1 y2 y3 y4 y5) (shares_Fair.l0 (k + 1) y0 y1 y2 y3 y4 y5))
 | 0=>fun _ _ _ _ _ _ r h=>by simp [shares_Fair.l0] at h
 | k + 1=>by
  have ih0:=shares_Fair.mono_l k
  intro y0 y1 y2 y3 y4 y5
  unfold shares_Fair.l0
  repeat' first
  | (with_reducible first | exact ih0 _ _ _ _ _ _ | exact shares_net_fair.mono _ _ _ | exact shares_net_held.mono _ _ _ _ _ | exact shares_newNet.mono _ _ _ | exact LeO.refl _ | exact LeO.none _ | refine LeO.ite ?_ ?_ | refine LeO.bind ?_ (fun _=>?_))
  | exact LeO.none _ | refine LeO.ite ?_ ?_ | refine LeO.bind ?_ (fun _=>?_)
theorem shares_Fair.mono:∀ a0 a1 k,LeO (shares_Fair.f k a0 a1) (shares_Fair.f (k + 1) a0 a1):=by
 intro a0 a1 k
 have ih0:=shares_Fair.mono_l k
 unfold shares_Fair.f
 repeat' first
   | (with_reducible first | exact ih0 _ _ _ _ _ _ | exact shares_net_fair.mono _ _ _ | exact shares_net_held.mono _ _ _ _ _ | exact shares_newNet.mono _ _ _ | exact LeO.refl _ | exact LeO.none _ | refine LeO.ite ?_ ?_ | refine LeO.bind ?_ (fun _=>?_))
   | exact LeO.none _ | refine LeO.ite ?_ ?_ | refine LeO.bind ?_ (fun _=>?_)
theorem shares_Fair.calls (k:Nat) (A0:Option Addr) (c0:Nat) (l0:List Int) (A1:Option Addr) (c1:Nat) (l1:List (S45)) (r1:List (S23)) (r2:List Int) (r3:Int) (w:World) (hr0:Kd.C (Kd.int .i64) w A0 l0.length l0) (hc0:l0.length ≤ c0) (hr1:Kd.C k45 w A1 l1.length l1) (hc1:l1.length ≤ c1) (h:shares_Fair.f k l0 l1 = some (r1,r2,r3)) :
  Calls Try.prog 32 #[.slice A0 l0.length c0,.slice A1 l1.length c1] w fun e w'=>∃ v0_ v1_:Value,e = .returned (.tuple #[v0_,v1_,.int .i64 r3]) ∧ Kd.R k23 23 w' w.heap.size (fun _=>True) v0_ r1 ∧ Kd.R (Kd.int .i64) 3 w' w.heap.size (fun _=>True) v1_ r2 ∧ Below w.heap.size w w':=by
 have hu109:=Try.underlying109
 have HR0:=A_ hr0
 have HC0:=A_ hc0
 clear hr0 hc0
 have HR1:=A_ hr1
 have HC1:=A_ hc1
 clear hr1 hc1
 have HB:=A_ (Below.refl w.heap.size w)
 have H:((shares_newNet.f k l0 l1).bind fun t296=>(if t296 = true then ((shares_net_fair.f k l0 l1).bind fun t298=>(shares_Fair.l0 k t298 ([]:List Int) (l1.length:Int) 0 l0 l1)) else (some (([]:List (S23)),([]:List Int),2)))) = some (r1,r2,r3):=h
 clear h
 replace H:=Option.bind_eq_some_iff.mp H
 obtain ⟨t296,A30,H⟩:=H
 replace H:(if t296 = true then ((shares_net_fair.f k l0 l1).bind fun t298=>(shares_Fair.l0 k t298 ([]:List Int) (l1.length:Int) 0 l0 l1)) else (some (([]:List (S23)),([]:List Int),2))) = some (r1,r2,r3):=H
 have A3:=A_ A30
 clear A30
 by_cases c4:t296 = true
 case neg =>
  replace c4:=Bool.eq_false_iff.mpr c4
  subst c4
  rw [if_neg (show ¬ (false = true) by decide)] at H
  simp only [Option.some.injEq,Prod.mk.injEq] at H
  obtain ⟨rfl,rfl,rfl⟩:=H
  go_enter Try.func32,Try.ntmps32
  go_wp2_with (first | ((with_reducible refine gate_callee (f:=70) rfl ?_);refine gL (some 15) Try.func70 #[.slice A0 l0.length c0,.slice A1 l1.length c1] ?_;(with_reducible refine (shares_newNet.calls k _ _ l0 _ _ l1 false _ ?side1 ?side2 ?side3 ?side4 A3.out).mono ?_);(case side1=>repeat (first | exact HR0.out | (with_reducible refine Kd.C_alloc ?_ _) | (with_reducible refine Kd.C_drewN ?_ _) | (with_reducible refine Kd.C_drew ?_)));(case side2=>exact HC0.out);(case side3=>repeat (first | exact HR1.out | (with_reducible refine Kd.C_alloc ?_ _) | (with_reducible refine Kd.C_drewN ?_ _) | (with_reducible refine Kd.C_drew ?_)));(case side4=>exact HC1.out);rintro e w17 ⟨rfl,hb⟩;refine ⟨_,rfl,?_⟩;replace HB:=bB HB hb;(try clear hb)) | ((with_reducible refine gate_dst (N:=7) rfl ?_);refine bx 7 #[.slice none 0 0,.slice none 0 0] 109 ?_;intro gb305 hg w18 hbox hb;have BK305:=A_ hbox;have GW305:=gw hg HB;have GE305:=GW305;replace HB:=bB HB hb;clear hb hbox hg;have hcz19_0:w18.cell? ⟨gb305,0,none⟩ = some (.slice none 0 0):=cz BK305 0;have hcz19_1:w18.cell? ⟨gb305,1,none⟩ = some (.slice none 0 0):=cz BK305 1;have hfz19_0:=blk_frozen BK305.out 0;have hfz19_1:=blk_frozen BK305.out 1))
  go_ret3
  exact ⟨_,_,rfl,by first | exact Kd.R_nil _ _ _ _ _ | exact Kd.N_nil _ _ _ _ _ | exact Kd.V_nil _ _ _ _ _ | exact Kd.Q_nil _ _ _ _ _ | exact Kd.S_nil _ _ _ _ _,by first | exact Kd.R_nil _ _ _ _ _ | exact Kd.N_nil _ _ _ _ _ | exact Kd.V_nil _ _ _ _ _ | exact Kd.Q_nil _ _ _ _ _ | exact Kd.S_nil _ _ _ _ _,bl HB⟩
 subst c4
 rw [if_pos rfl] at H
 replace H:=Option.bind_eq_some_iff.mp H
 obtain ⟨t298,A50,H⟩:=H
 replace H:(shares_Fair.l0 k t298 ([]:List Int) (l1.length:Int) 0 l0 l1) = some (r1,r2,r3):=H
 have A5:=A_ A50
 clear A50
 have H':=A_ H
 clear H
 go_enter Try.func32,Try.ntmps32
 go_wp2_with (first | ((with_reducible refine gate_callee (f:=70) rfl ?_);refine gL (some 15) Try.func70 #[.slice A0 l0.length c0,.slice A1 l1.length c1] ?_;(with_reducible refine (shares_newNet.calls k _ _ l0 _ _ l1 true _ ?side1 ?side2 ?side3 ?side4 A3.out).mono ?_);(case side1=>repeat (first | exact HR0.out | (with_reducible refine Kd.C_alloc ?_ _) | (with_reducible refine Kd.C_drewN ?_ _) | (with_reducible refine Kd.C_drew ?_)));(case side2=>exact HC0.out);(case side3=>repeat (first | exact HR1.out | (with_reducible refine Kd.C_alloc ?_ _) | (with_reducible refine Kd.C_drewN ?_ _) | (with_reducible refine Kd.C_drew ?_)));(case side4=>exact HC1.out);rintro e w6 ⟨rfl,hb⟩;refine ⟨_,rfl,?_⟩;replace HB:=bB HB hb;(try clear hb)) | ((with_reducible refine gate_dst (N:=7) rfl ?_);refine bx 7 #[.slice none 0 0,.slice none 0 0] 109 ?_;intro gb297 hg w7 hbox hb;have BK297:=A_ hbox;have GW297:=gw hg HB;have GE297:=GW297;replace HB:=bB HB hb;clear hb hbox hg;have hcz8_0:w7.cell? ⟨gb297,0,none⟩ = some (.slice none 0 0):=cz BK297 0;have hcz8_1:w7.cell? ⟨gb297,1,none⟩ = some (.slice none 0 0):=cz BK297 1;have hfz8_0:=blk_frozen BK297.out 0;have hfz8_1:=blk_frozen BK297.out 1) | ((with_reducible refine gate_callee (f:=71) rfl ?_);refine gL (some 21) Try.func71 #[.agg #[.slice A0 l0.length c0,.slice A1 l1.length c1]] ?_;(with_reducible refine (shares_net_fair.calls k _ _ l0 _ _ l1 t298 _ ?side1 ?side2 ?side3 ?side4 A5.out).mono ?_);(case side1=>exact Kd.C_below HR0.out (bl HB));(case side2=>exact HC0.out);(case side3=>exact Kd.C_below HR1.out (bl HB));(case side4=>exact HC1.out);rintro e w9 ⟨v299,rfl,ho0,hb⟩;refine ⟨_,rfl,?_⟩;have HO300:=A_ (Kd.R_lower ho0 (below_size (bl HB)));replace BK297:=A_ (blk_below (g:=gb297) (o:=.cells #[.slice A0 l0.length c0,.slice A1 l1.length c1] 109 (0,0)) (by (with_reducible repeat (first | refine blk_drewN ?_ _ | refine blk_drew ?_ | refine blk_alloc ?_ _));refine blk_put (cs:=#[.slice A0 l0.length c0,.slice none 0 0]) ?_ 1 _ rfl;(with_reducible repeat (first | refine blk_drewN ?_ _ | refine blk_drew ?_ | refine blk_alloc ?_ _));refine blk_put (cs:=#[.slice none 0 0,.slice none 0 0]) ?_ 0 _ rfl;(with_reducible repeat (first | refine blk_drewN ?_ _ | refine blk_drew ?_ | refine blk_alloc ?_ _));exact BK297.out) hb);replace HB:=bB HB hb;(try clear hb)))
 go_loopg [10,24] k (fun kq v10 v24 w'=>∃ (x10_1:List Int) (x24_1:Int),v24 = .int .i64 x24_1 ∧ Aside0 (shares_Fair.l0 kq t298 x10_1 (l1.length:Int) x24_1 l0 l1 = some (r1,r2,r3)) ∧ Aside0 (kq ≤ k) ∧ Aside0 (Kd.R k23 23 w' w.heap.size (fun _=>True) v299 t298) ∧ Aside0 (Kd.R (Kd.int .i64) 3 w' w.heap.size (fun _=>True) v10 x10_1) ∧ Aside0 (w'.heap[gb297]? = some (.cells #[(.slice A0 l0.length c0),(.slice A1 l1.length c1)] 109 (0,0))) ∧ Aside0 (Below w.heap.size w w'))
 case atStart=>exact ⟨(([]:List Int)),(0),rfl,H',⟨Nat.le_refl _⟩,⟨by (with_reducible repeat (first | apply Kd.R_alloc | apply Kd.R_drewN | apply Kd.R_drew));exact HO300.out⟩,⟨by first | exact Kd.R_nil _ _ _ _ _ | exact Kd.N_nil _ _ _ _ _ | exact Kd.V_nil _ _ _ _ _ | exact Kd.Q_nil _ _ _ _ _ | exact Kd.S_nil _ _ _ _ _⟩,⟨by (with_reducible repeat (first | refine blk_drewN ?_ _ | refine blk_drew ?_ | refine blk_alloc ?_ _));exact BK297.out⟩,⟨bl HB⟩⟩
 case round =>
  clear H'
  obtain ⟨x10_1,x24_1,rfl,HA,HK1,HO_9,HO_10,BK297,HB⟩:=hrel
  cases gk with
  | zero=>exact absurd HA.out (by simp [shares_Fair.l0])
  | succ k1 =>
   have H:=HA.out
   clear HA
   simp only [shares_Fair.l0] at H
   by_cases c10:x24_1 < (l1.length:Int)
   case neg =>
    rw [if_neg c10] at H
    have c10b0:=decide_eq_false c10
    clear c10
    simp only [Option.some.injEq,Prod.mk.injEq] at H
    obtain ⟨rfl,rfl,rfl⟩:=H
    go_wp2
    go_ret3
    exact ⟨_,_,rfl,by (with_reducible repeat (first | apply Kd.R_alloc | apply Kd.R_drewN | apply Kd.R_drew));exact HO_9.out,by (with_reducible repeat (first | apply Kd.R_alloc | apply Kd.R_drewN | apply Kd.R_drew));exact HO_10.out,bl HB⟩
   rw [if_pos c10] at H
   have c10b0:=decide_eq_true c10
   clear c10
   replace H:=Option.bind_eq_some_iff.mp H
   obtain ⟨t301,A110,H⟩:=H
   replace H:(if x10_1.length < 17592186044416 then (shares_Fair.l0 k1 t298 (x10_1 ++ [t301]) (l1.length:Int) (wrap64 (x24_1 + 1)) l0 l1) else (none)) = some (r1,r2,r3):=H
   have A11:=A_ A110
   clear A110
   replace H:=gd H
   obtain ⟨c12,H⟩:=H
   have LMc12:=A_ c12
   clear c12
   obtain ⟨y302,hy302⟩:∃ y_:List Int,y_ = (x10_1 ++ [t301]):=⟨_,rfl⟩
   replace H:(shares_Fair.l0 k1 t298 y302 (l1.length:Int) (wrap64 (x24_1 + 1)) l0 l1) = some (r1,r2,r3):=by first | (rw [hy302];with_reducible exact H) | (have H2_:=(Option.bind_some _ _).symm.trans H;rw [hy302];with_reducible exact H2_) | (have H2_:=(Option.bind_some _ _).symm.trans H;with_reducible exact H2_) | with_reducible exact H | (rw [hy302];exact H) | exact H
   have Ny302:=A_ hy302
   clear hy302
   have H':=A_ H
   clear H
   have hcz13_0:wr.cell? ⟨gb297,0,none⟩ = some (.slice A0 l0.length c0):=cz BK297 0
   have hcz13_1:wr.cell? ⟨gb297,1,none⟩ = some (.slice A1 l1.length c1):=cz BK297 1
   have hfz13_0:=blk_frozen BK297.out 0
   have hfz13_1:=blk_frozen BK297.out 1
   obtain ⟨Ao14,co14,eo14⟩:=Kd.R_slice HO_9.out
   subst eo14
   go_wp2_with (first | ((with_reducible refine gate_callee (f:=72) rfl ?_);refine gL (some 31) Try.func72 #[.agg #[.slice A0 l0.length c0,.slice A1 l1.length c1],.slice Ao14 t298.length co14,.int .i64 x24_1] ?_;(with_reducible refine (shares_net_held.calls k1 _ _ l0 _ _ l1 _ _ t298 x24_1 t301 _ ?side1 ?side2 ?side3 ?side4 ?side5 ?side6 A11.out).mono ?_);(case side1=>exact cB HR0 HB);(case side2=>exact HC0.out);(case side3=>exact cB HR1 HB);(case side4=>exact HC1.out);(case side5=>repeat (first | exact (Kd.R_reads' HO_9.out).2.2 | (with_reducible refine Kd.C_alloc ?_ _) | (with_reducible refine Kd.C_drewN ?_ _) | (with_reducible refine Kd.C_drew ?_)));(case side6=>exact (Kd.R_reads' HO_9.out).2.1);rintro e w15 ⟨rfl,hb⟩;refine ⟨_,rfl,?_⟩;replace HO_9:=rB HO_9 hb;replace HO_10:=rB HO_10 hb;replace BK297:=kB BK297 hb;replace HB:=bB HB hb;(try clear hb)) | ((with_reducible refine gate_builtin (b:=.append) (xs:=#[.tmp 27,.tmp 32]) rfl ?_);at_builtin;refine Kd.R_append (Kd.int .i64) (w0:=w) w.heap.size rfl (.tmp 27) (.tmp 32) 28 3 (.int .i64 0) 8 rfl Try.underlying28 info3 rfl (by decide) (by omega) u10 x10_1 t301 [.int .i64 t301] (fun _=>True) (fun _=>False) rfl rfl ?aP (fun _ hk=>hk.elim) ?aF ?aO ?aB ?aS ?aL ?_;(case aP=>exact rfl);(case aB=>exact HB.out);(case aF=>exact (fun _ _=>trivial));(case aO=>exact HO_10.out);(case aS=>exact (below_size HB.out));(case aL=>have:=LMc12.out;omega);intro v303 w16 ho hb hg hat;rw [← Ny302.out] at ho;have HO304:=A_ ho;replace HO_9:=A_ (Kd.R_over' HO_9.out (Kd.R_typed HO_10.out) (by decide) hg);replace BK297:=A_ (blk_grown (g:=gb297) (o:=.cells #[.slice A0 l0.length c0,.slice A1 l1.length c1] 109 (0,0)) BK297.out hg (Kd.R_ne HO_10.out BK297.out (by decide)));replace HB:=A_ hb;clear HO_10;clear ho hb hg hat))
   go_roundg k1
   case measure=>have:=HK1.out;omega
   case rel=>exact ⟨(y302),(wrap64 (x24_1 + 1)),rfl,H',⟨by have:=HK1.out;omega⟩,⟨by (with_reducible repeat (first | apply Kd.R_alloc | apply Kd.R_drewN | apply Kd.R_drew));exact HO_9.out⟩,⟨by (with_reducible repeat (first | apply Kd.R_alloc | apply Kd.R_drewN | apply Kd.R_drew));exact HO304.out⟩,⟨by (with_reducible repeat (first | refine blk_drewN ?_ _ | refine blk_drew ?_ | refine blk_alloc ?_ _));exact BK297.out⟩,⟨bl HB⟩⟩
end Go.Proofs.Ytjohcjfmlhihbaa.G
namespace Go.Proofs.Ytjohcjfmlhihbaa.G
open Go.RowKit Go.Proofs.YtjohcjfmlhihbaaW.PrintWords Go.Proofs.YtjohcjfmlhihbaaW.PrintLast Go.Proofs.YtjohcjfmlhihbaaW.PrintMore
set_option maxHeartbeats 8000000
set_option maxRecDepth 100000
attribute [local go_sem] cond_true cond_false fld23_0 fld23_1 fld45_0 fld45_1 fld109_0 fld109_1 fld94_0 fld94_1 max2_int min2_int max_two min_two max_three min_three max_four min_four   -- for this text's walks alone
attribute [local go_sem high] eqA23
def numnahref07_Same.l0:Nat → List (S23) → List (S23) → Int → Option (Bool)
 | 0,_,_,_=>none
 | k + 1,x0,x1,x5=>if x5 < (x0.length:Int) then (if 0 ≤ x5 then (if x5 < (x1.length:Int) then (if (!(((rd_T23 x0 x5).f0) == ((rd_T23 x1 x5).f0)) || (!(((rd_T23 x0 x5).f1) == ((rd_T23 x1 x5).f1)))) = true then (some false) else (numnahref07_Same.l0 k x0 x1 (wrap64 (x5 + 1)))) else (none)) else (none)) else (some true)
def numnahref07_Same.f (k:Nat) (l0:List (S23)) (l1:List (S23)):Option (Bool):=if (l0.length:Int) = (l1.length:Int) then (numnahref07_Same.l0 k l0 l1 0) else (some false)
theorem numnahref07_Same.mono_l:∀ k,(∀ y0 y1 y2,LeO (numnahref07_Same.l0 k y0 y1 y2) (numnahref07_Same.l0 (k + 1) y0 y1 y2))
 | 0=>fun _ _ _ r h=>by simp [numnahref07_Same.l0] at h
 | k + 1=>by
  have ih0:=numnahref07_Same.mono_l k
  intro y0 y1 y2
  unfold numnahref07_Same.l0
  repeat' first
  | (with_reducible exact ih0 _ _ _)
  | (with_reducible exact LeO.refl _)
  | (with_reducible exact LeO.none _)
  | (with_reducible refine LeO.ite ?_ ?_)
  | (with_reducible refine LeO.bind ?_ (fun _=>?_))
  | exact ih0 _ _ _
  | exact LeO.none _
  | refine LeO.ite ?_ ?_
  | refine LeO.bind ?_ (fun _=>?_)
theorem numnahref07_Same.mono:∀ a0 a1 k,LeO (numnahref07_Same.f k a0 a1) (numnahref07_Same.f (k + 1) a0 a1):=by
 intro a0 a1 k
 have ih0:=numnahref07_Same.mono_l k
 unfold numnahref07_Same.f
 repeat' first
   | (with_reducible exact ih0 _ _ _)
   | (with_reducible exact LeO.refl _)
   | (with_reducible exact LeO.none _)
   | (with_reducible refine LeO.ite ?_ ?_)
   | (with_reducible refine LeO.bind ?_ (fun _=>?_))
   | exact ih0 _ _ _
   | exact LeO.none _
   | refine LeO.ite ?_ ?_
   | refine LeO.bind ?_ (fun _=>?_)
theorem numnahref07_Same.calls (k:Nat) (A0:Option Addr) (c0:Nat) (l0:List (S23)) (A1:Option Addr) (c1:Nat) (l1:List (S23)) (r:Bool) (w:World) (hr0:Kd.C k23 w A0 l0.length l0) (hc0:l0.length ≤ c0) (hr1:Kd.C k23 w A1 l1.length l1) (hc1:l1.length ≤ c1) (h:numnahref07_Same.f k l0 l1 = some r) :
  Calls Try.prog 33 #[.slice A0 l0.length c0,.slice A1 l1.length c1] w fun e w'=>e = .returned (.bool r) ∧ Drawn0 w w':=by
 have hu23:=Try.underlying23
 have HR0:=Aside0.mk hr0
 have HC0:=Aside0.mk hc0
 clear hr0 hc0
 have HR1:=Aside0.mk hr1
 have HC1:=Aside0.mk hc1
 clear hr1 hc1
 have H:(if (l0.length:Int) = (l1.length:Int) then (numnahref07_Same.l0 k l0 l1 0) else (some false)) = some r:=h
 clear h
 by_cases c3:(l0.length:Int) = (l1.length:Int)
 case neg =>
  rw [if_neg c3] at H
  have c3b0:((l0.length:Int) == (l1.length:Int)) = false:=beq_eq_false_iff_ne.mpr c3
  have c3b1:((l0.length:Int) != (l1.length:Int)) = true:=bne_iff_ne.mpr c3
  have c3b2:(l0.length == l1.length) = false:=by first | simpa using c3 | (simp at c3 ⊢;omega)
  obtain rfl:=Option.some.inj H
  go_enter Try.func33,Try.ntmps33
  go_wp2
  repeat (go_quiet (fail);try go_wp2)
  go_ret
  exact ⟨by first | rfl | (simp;done) | (simp [*];done),by repeat (first | exact Drawn0.refl _ | apply Drawn0.step)⟩
 rw [if_pos c3] at H
 have c3b0:((l0.length:Int) == (l1.length:Int)) = true:=beq_iff_eq.mpr c3
 have c3b1:((l0.length:Int) != (l1.length:Int)) = false:=bne_eq_false_iff_eq.mpr c3
 have c3b2:(l0.length == l1.length) = true:=by first | simpa using c3 | (simp at c3 ⊢;omega)
 clear c3
 have H':=Aside0.mk H
 clear H
 go_enter Try.func33,Try.ntmps33
 go_wp2
 repeat (go_quiet (fail);try go_wp2)
 go_loopg [5] k (fun kq v5 w'=>∃ (x5_1:Int),v5 = .int .i64 x5_1 ∧ Aside0 (numnahref07_Same.l0 kq l0 l1 x5_1 = some r) ∧ Aside0 (kq ≤ k) ∧ Drawn0 w w')
 case atStart=>exact ⟨(0),(by first | rfl | (simp;done) | (simp [*];done)),H',⟨Nat.le_refl _⟩,by repeat (first | exact Drawn0.refl _ | apply Drawn0.step)⟩
 case round =>
  clear H'
  try clear c1
  try clear p2
  try clear c3
  try clear c3b0
  try clear c3b1
  try clear c3b2
  obtain ⟨x5_1,rfl,HA,HK1,⟨m1,rfl⟩⟩:=hrel
  cases gk with
  | zero=>exact absurd HA.out (by simp [numnahref07_Same.l0])
  | succ k1 =>
   have H:=HA.out
   clear HA
   simp only [numnahref07_Same.l0] at H
   by_cases c4:x5_1 < (l0.length:Int)
   case neg =>
    rw [if_neg c4] at H
    have c4b0:decide (x5_1 < (l0.length:Int)) = false:=decide_eq_false c4
    clear c4
    obtain rfl:=Option.some.inj H
    go_wp2
    repeat (go_quiet (fail);try go_wp2)
    go_ret
    exact ⟨by first | rfl | (simp;done) | (simp [*];done),by repeat (first | exact Drawn0.refl _ | apply Drawn0.step)⟩
   rw [if_pos c4] at H
   have c4b0:decide (x5_1 < (l0.length:Int)) = true:=decide_eq_true c4
   clear c4
   by_cases c5:0 ≤ x5_1
   case neg =>
    rw [if_neg c5] at H
    exact absurd H (by simp)
   rw [if_pos c5] at H
   have c5b0:decide (0 ≤ x5_1) = true:=decide_eq_true c5
   clear c5
   by_cases c6:x5_1 < (l1.length:Int)
   case neg =>
    rw [if_neg c6] at H
    exact absurd H (by simp)
   rw [if_pos c6] at H
   have c6b0:decide (x5_1 < (l1.length:Int)) = true:=decide_eq_true c6
   clear c6
   by_cases c7:(!(((rd_T23 l0 x5_1).f0) == ((rd_T23 l1 x5_1).f0)) || (!(((rd_T23 l0 x5_1).f1) == ((rd_T23 l1 x5_1).f1)))) = true
   ·rw [if_pos c7] at H
    have c7b0:(!(((rd_T23 l0 x5_1).f0) == ((rd_T23 l1 x5_1).f0)) || (!(((rd_T23 l0 x5_1).f1) == ((rd_T23 l1 x5_1).f1)))) = true:=c7
    clear c7
    obtain rfl:=Option.some.inj H
    have p306:0 ≤ (x5_1:Int):=of_decide_eq_true (by first | (with_reducible assumption) | assumption)
    have q306:x5_1 < (l0.length:Int):=of_decide_eq_true (by first | (with_reducible assumption) | assumption)
    obtain ⟨ad306,e306,hx306_0,hx306_1⟩:=at_T23 HR0.out x5_1 p306 q306
    cases e306
    replace p306:=eq_true p306
    replace q306:=eq_true q306
    have p307:0 ≤ (x5_1:Int):=of_decide_eq_true (by first | (with_reducible assumption) | assumption)
    have q307:x5_1 < (l1.length:Int):=of_decide_eq_true (by first | (with_reducible assumption) | assumption)
    obtain ⟨ad307,e307,hx307_0,hx307_1⟩:=at_T23 HR1.out x5_1 p307 q307
    cases e307
    replace p307:=eq_true p307
    replace q307:=eq_true q307
    go_wp2
    repeat (go_quiet (fail);try go_wp2)
    go_ret
    exact ⟨by first | rfl | (simp;done) | (simp [*];done),by repeat (first | exact Drawn0.refl _ | apply Drawn0.step)⟩
   rw [if_neg c7] at H
   have c7b0:(!(((rd_T23 l0 x5_1).f0) == ((rd_T23 l1 x5_1).f0)) || (!(((rd_T23 l0 x5_1).f1) == ((rd_T23 l1 x5_1).f1)))) = false:=by simpa using c7
   clear c7
   have H':=Aside0.mk H
   clear H
   have p306:0 ≤ (x5_1:Int):=of_decide_eq_true (by first | (with_reducible assumption) | assumption)
   have q306:x5_1 < (l0.length:Int):=of_decide_eq_true (by first | (with_reducible assumption) | assumption)
   obtain ⟨ad306,e306,hx306_0,hx306_1⟩:=at_T23 HR0.out x5_1 p306 q306
   cases e306
   replace p306:=eq_true p306
   replace q306:=eq_true q306
   have p307:0 ≤ (x5_1:Int):=of_decide_eq_true (by first | (with_reducible assumption) | assumption)
   have q307:x5_1 < (l1.length:Int):=of_decide_eq_true (by first | (with_reducible assumption) | assumption)
   obtain ⟨ad307,e307,hx307_0,hx307_1⟩:=at_T23 HR1.out x5_1 p307 q307
   cases e307
   replace p307:=eq_true p307
   replace q307:=eq_true q307
   go_wp2
   repeat (go_quiet (fail);try go_wp2)
   go_roundg k1
   case measure=>have:=HK1.out;omega
   case rel=>exact ⟨(wrap64 (x5_1 + 1)),(by first | rfl | (simp;done) | (simp [*];done)),H',⟨by have:=HK1.out;omega⟩,by repeat (first | exact Drawn0.refl _ | apply Drawn0.step)⟩
end Go.Proofs.Ytjohcjfmlhihbaa.G
namespace Go.Proofs.Ytjohcjfmlhihbaa.G
open Go.RowKit Go.Proofs.YtjohcjfmlhihbaaW.PrintWords Go.Proofs.YtjohcjfmlhihbaaW.PrintLast Go.Proofs.YtjohcjfmlhihbaaW.PrintMore
set_option maxHeartbeats 8000000
set_option maxRecDepth 100000
attribute [local go_sem] cond_true cond_false fld23_0 fld23_1 fld45_0 fld45_1 fld109_0 fld109_1 fld94_0 fld94_1 max2_int min2_int max_two min_two max_three min_three max_four min_four   -- for this text's walks alone
attribute [local go_sem high] eqA23
def numnahlaw07_ints.l0:Nat → List Int → List Int → Int → Option (Bool)
 | 0,_,_,_=>none
 | k + 1,x0,x1,x5=>if x5 < (x0.length:Int) then (if 0 ≤ x5 then (if x5 < (x1.length:Int) then (if (rd x0 x5) = (rd x1 x5) then (numnahlaw07_ints.l0 k x0 x1 (wrap64 (x5 + 1))) else (some false)) else (none)) else (none)) else (some true)
def numnahlaw07_ints.f (k:Nat) (l0:List Int) (l1:List Int):Option (Bool):=if (l0.length:Int) = (l1.length:Int) then (numnahlaw07_ints.l0 k l0 l1 0) else (some false)
theorem numnahlaw07_ints.mono_l:∀ k,(∀ y0 y1 y2,LeO (numnahlaw07_ints.l0 k y0 y1 y2) (numnahlaw07_ints.l0 (k + 1) y0 y1 y2))
 | 0=>fun _ _ _ r h=>by simp [numnahlaw07_ints.l0] at h
 | k + 1=>by
  have ih0:=numnahlaw07_ints.mono_l k
  intro y0 y1 y2
  unfold numnahlaw07_ints.l0
  repeat' first
  | (with_reducible exact ih0 _ _ _)
  | (with_reducible exact LeO.refl _)
  | (with_reducible exact LeO.none _)
  | (with_reducible refine LeO.ite ?_ ?_)
  | (with_reducible refine LeO.bind ?_ (fun _=>?_))
  | exact ih0 _ _ _
  | exact LeO.none _
  | refine LeO.ite ?_ ?_
  | refine LeO.bind ?_ (fun _=>?_)
theorem numnahlaw07_ints.mono:∀ a0 a1 k,LeO (numnahlaw07_ints.f k a0 a1) (numnahlaw07_ints.f (k + 1) a0 a1):=by
 intro a0 a1 k
 have ih0:=numnahlaw07_ints.mono_l k
 unfold numnahlaw07_ints.f
 repeat' first
   | (with_reducible exact ih0 _ _ _)
   | (with_reducible exact LeO.refl _)
   | (with_reducible exact LeO.none _)
   | (with_reducible refine LeO.ite ?_ ?_)
   | (with_reducible refine LeO.bind ?_ (fun _=>?_))
   | exact ih0 _ _ _
   | exact LeO.none _
   | refine LeO.ite ?_ ?_
   | refine LeO.bind ?_ (fun _=>?_)
theorem numnahlaw07_ints.calls (k:Nat) (A0:Option Addr) (c0:Nat) (l0:List Int) (A1:Option Addr) (c1:Nat) (l1:List Int) (r:Bool) (w:World) (hr0:Kd.C (Kd.int .i64) w A0 l0.length l0) (hc0:l0.length ≤ c0) (hr1:Kd.C (Kd.int .i64) w A1 l1.length l1) (hc1:l1.length ≤ c1) (h:numnahlaw07_ints.f k l0 l1 = some r) :
  Calls Try.prog 46 #[.slice A0 l0.length c0,.slice A1 l1.length c1] w fun e w'=>e = .returned (.bool r) ∧ Drawn0 w w':=by
 have HR0:=Aside0.mk hr0
 have HC0:=Aside0.mk hc0
 clear hr0 hc0
 have HR1:=Aside0.mk hr1
 have HC1:=Aside0.mk hc1
 clear hr1 hc1
 have H:(if (l0.length:Int) = (l1.length:Int) then (numnahlaw07_ints.l0 k l0 l1 0) else (some false)) = some r:=h
 clear h
 by_cases c3:(l0.length:Int) = (l1.length:Int)
 case neg =>
  rw [if_neg c3] at H
  have c3b0:((l0.length:Int) == (l1.length:Int)) = false:=beq_eq_false_iff_ne.mpr c3
  have c3b1:((l0.length:Int) != (l1.length:Int)) = true:=bne_iff_ne.mpr c3
  have c3b2:(l0.length == l1.length) = false:=by first | simpa using c3 | (simp at c3 ⊢;omega)
  obtain rfl:=Option.some.inj H
  go_enter Try.func46,Try.ntmps46
  go_wp2
  repeat (go_quiet (fail);try go_wp2)
  go_ret
  exact ⟨by first | rfl | (simp;done) | (simp [*];done),by repeat (first | exact Drawn0.refl _ | apply Drawn0.step)⟩
 rw [if_pos c3] at H
 have c3b0:((l0.length:Int) == (l1.length:Int)) = true:=beq_iff_eq.mpr c3
 have c3b1:((l0.length:Int) != (l1.length:Int)) = false:=bne_eq_false_iff_eq.mpr c3
 have c3b2:(l0.length == l1.length) = true:=by first | simpa using c3 | (simp at c3 ⊢;omega)
 clear c3
 have H':=Aside0.mk H
 clear H
 go_enter Try.func46,Try.ntmps46
 go_wp2
 repeat (go_quiet (fail);try go_wp2)
 go_loopg [5] k (fun kq v5 w'=>∃ (x5_1:Int),v5 = .int .i64 x5_1 ∧ Aside0 (numnahlaw07_ints.l0 kq l0 l1 x5_1 = some r) ∧ Aside0 (kq ≤ k) ∧ Drawn0 w w')
 case atStart=>exact ⟨(0),(by first | rfl | (simp;done) | (simp [*];done)),H',⟨Nat.le_refl _⟩,by repeat (first | exact Drawn0.refl _ | apply Drawn0.step)⟩
 case round =>
  clear H'
  try clear c1
  try clear p2
  try clear c3
  try clear c3b0
  try clear c3b1
  try clear c3b2
  obtain ⟨x5_1,rfl,HA,HK1,⟨m1,rfl⟩⟩:=hrel
  cases gk with
  | zero=>exact absurd HA.out (by simp [numnahlaw07_ints.l0])
  | succ k1 =>
   have H:=HA.out
   clear HA
   simp only [numnahlaw07_ints.l0] at H
   by_cases c4:x5_1 < (l0.length:Int)
   case neg =>
    rw [if_neg c4] at H
    have c4b0:decide (x5_1 < (l0.length:Int)) = false:=decide_eq_false c4
    clear c4
    obtain rfl:=Option.some.inj H
    go_wp2
    repeat (go_quiet (fail);try go_wp2)
    go_ret
    exact ⟨by first | rfl | (simp;done) | (simp [*];done),by repeat (first | exact Drawn0.refl _ | apply Drawn0.step)⟩
   rw [if_pos c4] at H
   have c4b0:decide (x5_1 < (l0.length:Int)) = true:=decide_eq_true c4
   clear c4
   by_cases c5:0 ≤ x5_1
   case neg =>
    rw [if_neg c5] at H
    exact absurd H (by simp)
   rw [if_pos c5] at H
   have c5b0:decide (0 ≤ x5_1) = true:=decide_eq_true c5
   clear c5
   by_cases c6:x5_1 < (l1.length:Int)
   case neg =>
    rw [if_neg c6] at H
    exact absurd H (by simp)
   rw [if_pos c6] at H
   have c6b0:decide (x5_1 < (l1.length:Int)) = true:=decide_eq_true c6
   clear c6
   by_cases c7:(rd l0 x5_1) = (rd l1 x5_1)
   case neg =>
    rw [if_neg c7] at H
    have c7b0:((rd l0 x5_1) == (rd l1 x5_1)) = false:=beq_eq_false_iff_ne.mpr c7
    have c7b1:((rd l0 x5_1) != (rd l1 x5_1)) = true:=bne_iff_ne.mpr c7
    obtain rfl:=Option.some.inj H
    have p308:0 ≤ (x5_1:Int):=of_decide_eq_true (by first | (with_reducible assumption) | assumption)
    have q308:x5_1 < (l0.length:Int):=of_decide_eq_true (by first | (with_reducible assumption) | assumption)
    obtain ⟨ad308,e308,hx308_0⟩:=Kd.at_int HR0.out x5_1 p308 q308
    cases e308
    replace p308:=eq_true p308
    replace q308:=eq_true q308
    have p309:0 ≤ (x5_1:Int):=of_decide_eq_true (by first | (with_reducible assumption) | assumption)
    have q309:x5_1 < (l1.length:Int):=of_decide_eq_true (by first | (with_reducible assumption) | assumption)
    obtain ⟨ad309,e309,hx309_0⟩:=Kd.at_int HR1.out x5_1 p309 q309
    cases e309
    replace p309:=eq_true p309
    replace q309:=eq_true q309
    go_wp2
    repeat (go_quiet (fail);try go_wp2)
    go_ret
    exact ⟨by first | rfl | (simp;done) | (simp [*];done),by repeat (first | exact Drawn0.refl _ | apply Drawn0.step)⟩
   rw [if_pos c7] at H
   have c7b0:((rd l0 x5_1) == (rd l1 x5_1)) = true:=beq_iff_eq.mpr c7
   have c7b1:((rd l0 x5_1) != (rd l1 x5_1)) = false:=bne_eq_false_iff_eq.mpr c7
   clear c7
   have H':=Aside0.mk H
   clear H
   have p308:0 ≤ (x5_1:Int):=of_decide_eq_true (by first | (with_reducible assumption) | assumption)
   have q308:x5_1 < (l0.length:Int):=of_decide_eq_true (by first | (with_reducible assumption) | assumption)
   obtain ⟨ad308,e308,hx308_0⟩:=Kd.at_int HR0.out x5_1 p308 q308
   cases e308
   replace p308:=eq_true p308
   replace q308:=eq_true q308
   have p309:0 ≤ (x5_1:Int):=of_decide_eq_true (by first | (with_reducible assumption) | assumption)
   have q309:x5_1 < (l1.length:Int):=of_decide_eq_true (by first | (with_reducible assumption) | assumption)
   obtain ⟨ad309,e309,hx309_0⟩:=Kd.at_int HR1.out x5_1 p309 q309
   cases e309
   replace p309:=eq_true p309
   replace q309:=eq_true q309
   go_wp2
   repeat (go_quiet (fail);try go_wp2)
   go_roundg k1
   case measure=>have:=HK1.out;omega
   case rel=>exact ⟨(wrap64 (x5_1 + 1)),(by first | rfl | (simp;done) | (simp [*];done)),H',⟨by have:=HK1.out;omega⟩,by repeat (first | exact Drawn0.refl _ | apply Drawn0.step)⟩
end Go.Proofs.Ytjohcjfmlhihbaa.G
namespace Go.Proofs.Ytjohcjfmlhihbaa.G
open Go Go.RowKit Go.ChangeMaps
variable {P:Program} (w:World)
theorem run_check {k:TypeId} (hk:P.underlying k = some (.int .i64)) (em:Bool) (n:Nat) (j:Int):(Instr.checkKey em (n + 1) k (.int .i64 j)).run P w = .ok () w:=by
 simp [Instr.checkKey,run_underlying hk,Result.andThen]
theorem run_put {t k e:TypeId} (ht:P.underlying t = some (.map k e)) (hk:P.underlying k = some (.int .i64)) {b:Nat} {es:Array MapEntry} {clock:Nat} (hb:w.heap[b]? = some (.map es clock)) {j:Int} {val:Value}
  (hf:Instr.findNow (.int .i64) (.int .i64 j) es.toList 0 = some none) :
  (Instr.mapUpdate t (.map (some b)) (.int .i64 j) val).run P w = .ok () (setBlock w b (.map (es.push { key:=.int .i64 j,val:=val,born:=clock }) (clock + 1))):=by
 simp [Instr.mapUpdate,run_underlying ht,MapKept.run_getObj_map hb,fun em=>run_check w hk em 9999 j,run_underlying hk,Instr.findKey,hf,MapKept.run_setObj_map _ hb,Result.andThen,setBlock]
theorem run_look {t k e:TypeId} (ht:P.underlying t = some (.map k e)) (hk:P.underlying k = some (.int .i64)) {b:Nat} {es:Array MapEntry} {clock:Nat} (hb:w.heap[b]? = some (.map es clock)) {j:Int} {i:Nat} {v:Value}
  (hf:Instr.findNow (.int .i64) (.int .i64 j) es.toList 0 = some (some (i,v))) :
  (Instr.lookup t (.map (some b)) (.int .i64 j) true).run P w = .ok (.tuple #[v,.bool true]) w:=by
 simp [Instr.lookup,run_underlying ht,MapKept.run_getObj_map hb,fun em=>run_check w hk em 9999 j,run_underlying hk,Instr.findKey,hf,Result.andThen]
theorem run_look_no {t k e:TypeId} (ht:P.underlying t = some (.map k e)) (hk:P.underlying k = some (.int .i64)) {z:Value} (hz:(zeroValue e).run P w = .ok z w) {b:Nat} {es:Array MapEntry} {clock:Nat} (hb:w.heap[b]? = some (.map es clock)) {j:Int}
  (hf:Instr.findNow (.int .i64) (.int .i64 j) es.toList 0 = some none) :
  (Instr.lookup t (.map (some b)) (.int .i64 j) true).run P w = .ok (.tuple #[z,.bool false]) w:=by
 simp [Instr.lookup,run_underlying ht,MapKept.run_getObj_map hb,fun em=>run_check w hk em 9999 j,run_underlying hk,Instr.findKey,hf,hz,Result.andThen]
theorem insert_new {ops:Array Oper} {rest:List Oper} {o:Oper} {a:Act} {Q:Exit → Act → World → Prop} (hg:o.guard = none) (m x v:Operand) (t k e:TypeId) (hop:o.op = Op.insert t m x v)
  (ht:P.underlying t = some (.map k e)) (hk:P.underlying k = some (.int .i64)) (b:Nat) (es:Array MapEntry) (clock:Nat) (hm:a.eval m = .map (some b)) (hb:w.heap[b]? = some (.map es clock)) (j:Int) (val:Value) (hx:a.eval x = .int .i64 j) (hv:a.eval v = val)
  (hf:Instr.findNow (.int .i64) (.int .i64 j) es.toList 0 = some none)
  (hK:∀ w',w'.heap[b]? = some (.map (es.push { key:=.int .i64 j,val:=val,born:=clock }) (clock + 1)) → w.grownBy w' (some b) → wpList P ops Q rest (a.put o.dst undef) w') :
  wpList P ops Q (o :: rest) a w:=by
 refine wpList_plain hg fun K' hK'=>?_
 unfold Oper.wp
 simp [execOp,hop,hm,hx,hv,run_put w ht hk hb hf,Result.andThen]
 refine hK' _ _ (hK _ (heap_setBlock_same hb _) ⟨rfl,rfl,rfl,by simp [setBlock],fun i _ hi=>heap_setBlock_other hb _ (fun e=>hi (by rw [e]))⟩)
theorem map_event {ops:Array Oper} {rest:List Oper} {o:Oper} {a:Act} {Q:Exit → Act → World → Prop} {W:World} (hg:o.guard = none) (t:TypeId) (hop:o.op = Op.makeMap t none)
  (h:∀ g,g = W.heap.size → ∀ w1,w1.heap[g]? = some (.map #[] 0) → Below W.heap.size W w1 → wpList P ops Q rest (a.put o.dst (.map (some g))) w1):wpList P ops Q (o :: rest) a W:=by
 refine wpList_plain hg fun K' hK'=>?_
 unfold Oper.wp
 have hr:(Instr.makeMap t none).run P W = .ok (.map (some W.heap.size)) (W.alloc (.map #[] 0)):=rfl
 simp [execOp,hop,hr,Result.andThen]
 exact hK' _ _ (h _ rfl _ (World.alloc_heap_new _ _) ((Below.refl _ _).alloc (Nat.le_refl _) _))
end Go.Proofs.Ytjohcjfmlhihbaa.G
namespace Go.Proofs.Ytjohcjfmlhihbaa.G
open Go.RowKit Go.Proofs.YtjohcjfmlhihbaaW.PrintWords Go.Proofs.YtjohcjfmlhihbaaW.PrintLast Go.Proofs.YtjohcjfmlhihbaaW.PrintMore
attribute [local go_sem] cond_true cond_false fld23_0 fld23_1 fld45_0 fld45_1 fld109_0 fld109_1 fld94_0 fld94_1 max2_int min2_int max_two min_two max_three min_three max_four min_four   -- for this text's walks alone
set_option linter.unusedVariables false
set_option linter.unusedSimpArgs false
def prop_1.f (k:Nat) (a0 est all:Int):Option (Int × Int):=(shares_frac.f k (wrap64 (a0 * est)) all).bind fun bt137=>(some (bt137.1,bt137.2))
theorem prop_1.mono:∀ a0 est all k,LeO (prop_1.f k a0 est all) (prop_1.f (k + 1) a0 est all):=by
 intro a0 est all k
 unfold prop_1.f
 repeat' first
   | (with_reducible exact shares_frac.mono _ _ _)
   | (with_reducible exact LeO.refl _)
   | (with_reducible exact LeO.none _)
   | (with_reducible refine LeO.ite ?_ ?_)
   | (with_reducible refine LeO.bind ?_ (fun _=>?_))
   | exact shares_frac.mono _ _ _
   | exact LeO.none _
   | refine LeO.ite ?_ ?_
   | refine LeO.bind ?_ (fun _=>?_)
set_option maxHeartbeats 8000000 in
set_option maxRecDepth 100000 in
theorem prop_1.calls (k:Nat) (a0 est all:Int) (r1:Int) (r2:Int) (w:World) (gbC gbA:Nat) (A:Option Addr) (c n:Nat) (BK0:w.heap[gbC]? = some (.cells #[.slice A n c,.int .i64 est] 94 (0,0))) (BK1:w.heap[gbA]? = some (.cells #[.int .i64 all] 3 (0,0))) (h:prop_1.f k a0 est all = some (r1,r2)) :
  Calls Try.prog 121 #[.int .i64 a0,.pointer (some ⟨gbC,0,none⟩),.pointer (some ⟨gbA,0,none⟩)] w fun e w'=>e = .returned (.agg #[.int .i64 r1,.int .i64 r2]) ∧ Below w.heap.size w w':=by
 have hu23:=Try.underlying23
 have HB:=Aside0.mk (Below.refl w.heap.size w)
 have BKC:=Aside0.mk BK0
 have BKA:=Aside0.mk BK1
 clear BK0 BK1
 have H:((shares_frac.f k (wrap64 (a0 * est)) all).bind fun bt137=>(some (bt137.1,bt137.2))) = some (r1,r2):=h
 clear h
 replace H:=Option.bind_eq_some_iff.mp H
 obtain ⟨⟨t137,t138⟩,A20,H⟩:=H
 replace H:(some (t137,t138)) = some (r1,r2):=H
 have A2:=Aside0.mk A20
 clear A20
 simp only [Option.some.injEq,Prod.mk.injEq] at H
 obtain ⟨rfl,rfl⟩:=H
 go_enter Try.func121,Try.ntmps121
 go_wp2_with (first | ((with_reducible refine gate_dst (N:=4) rfl ?_);refine box_event ?hg (N:=4) ?hd (cs:=#[.int .i64 0,.int .i64 0]) (t:=23) ?hr ?_;(case hd=>rfl);(case hg=>rfl);(case hr=>first | (go_simp;done) | (go_simp;rfl));intro gb136 hg w3 hbox hb;have n0_:=Aside0.mk (below_step (by repeat (first | (with_reducible first | exact HB.out | apply below_alloc | apply pw_below_drewN | apply below_drew1) | exact HB.out)) hb);have n1_:=Aside0.mk (hbox);have n2_:=Aside0.mk ((by rw [hg];exact (below_size (by repeat (first | (with_reducible first | exact HB.out | apply below_alloc | apply pw_below_drewN | apply below_drew1) | exact HB.out))):w.heap.size ≤ gb136));have n3_:=Aside0.mk ((by rw [hg];exact (below_size (by repeat (first | (with_reducible first | exact HB.out | apply below_alloc | apply pw_below_drewN | apply below_drew1) | exact HB.out))):w.heap.size ≤ gb136));clear HB;have HB:=n0_;have BK136:=n1_;have GW136:=n2_;have GE136:=n3_;clear n0_ n1_ n2_ n3_;have n4_:=Aside0.mk (blk_below (g:=gbC) (o:=.cells #[.slice A n c,.int .i64 est] 94 (0,0)) BKC.out hb);have n5_:=Aside0.mk (blk_below (g:=gbA) (o:=.cells #[.int .i64 all] 3 (0,0)) BKA.out hb);have hczC:=(blk_cell n4_.out 1).trans rfl;have hczA:=(blk_cell n5_.out 0).trans rfl;clear n4_ n5_;clear hb hbox hg) | ((with_reducible refine gate_callee (f:=117) rfl ?_);refine goesL_ (some 10) rfl rfl Try.func117 (by kernel_rfl) rfl #[.int .i64 (wrap64 (a0 * est)),.int .i64 all] rfl (by (try simp only [List.map_toArray,List.map_cons,List.map_nil]);first | done | rfl | (simp only [List.length_drop,List.length_take];rfl)) ?_;(with_reducible refine (shares_frac.calls k (wrap64 (a0 * est)) all t137 t138 _ A2.out).mono ?_);rintro e w4 ⟨rfl,hb⟩;refine ⟨_,rfl,?_⟩;have n0_:=Aside0.mk (blk_below (g:=gb136) (o:=.cells #[.int .i64 0,.int .i64 0] 23 (0,0)) (by (with_reducible repeat (first | refine blk_drewN ?_ _ | refine blk_drew ?_ | refine blk_alloc ?_ _));exact BK136.out) hb);have n1_:=Aside0.mk (below_step (by repeat (first | (with_reducible first | exact HB.out | apply below_alloc | apply pw_below_drewN | apply below_drew1 | refine below_set ?_ GE136.out) | exact HB.out)) hb);clear BK136;clear HB;have BK136:=n0_;have HB:=n1_;clear n0_ n1_;(try clear hb);(try clear hb2);(try clear hk);(try clear hi);have hcz5_0:w4.cell? ⟨gb136,0,none⟩ = some (.int .i64 0):=(blk_cell BK136.out 0).trans rfl;have hcz5_1:w4.cell? ⟨gb136,1,none⟩ = some (.int .i64 0):=(blk_cell BK136.out 1).trans rfl;have hfz5_0:=blk_frozen BK136.out 0;have hfz5_1:=blk_frozen BK136.out 1))
 refine bodyPost_ret (results_cell_row rfl _ _ gb136 23 #[.int .i64 t137,.int .i64 t138] (0,0) _ rfl (by (with_reducible repeat (first | refine blk_drewN ?_ _ | refine blk_drew ?_ | refine blk_alloc ?_ _));refine blk_put (cs:=#[.int .i64 t137,.int .i64 0]) ?_ 1 _ rfl;(with_reducible repeat (first | refine blk_drewN ?_ _ | refine blk_drew ?_ | refine blk_alloc ?_ _));refine blk_put (cs:=#[.int .i64 0,.int .i64 0]) ?_ 0 _ rfl;(with_reducible repeat (first | refine blk_drewN ?_ _ | refine blk_drew ?_ | refine blk_alloc ?_ _));exact BK136.out) Try.underlying23 rfl (by kernel_rfl)) rfl ?_
 exact ⟨by first | rfl | (simp [errW_none,errW_some] <;> rfl) | (simp [*,errW_none,errW_some] <;> rfl),by repeat (first | (with_reducible first | exact HB.out | apply below_alloc | apply pw_below_drewN | apply below_drew1 | refine below_set ?_ GE136.out) | exact HB.out)⟩
def each_prop.l0 (est all:Int):Nat → List (S23) → List Int → Int → Int → Option ((List (S23)))
 | 0,_,_,_,_=>none
 | k + 1,x5,x9,x10,x11=>if x11 < x10 then (if 0 ≤ x11 then (if x11 < (x9.length:Int) then ((prop_1.f k (rd x9 x11) est all).bind fun bt1611=>(if x5.length < 8796093022208 then (each_prop.l0 est all k (x5 ++ [(⟨bt1611.1,bt1611.2⟩:S23)]) x9 x10 (wrap64 (x11 + 1))) else (none))) else (none)) else (none)) else (some x5)
def each_prop.f (est all:Int) (k:Nat) (l0_0:List Int) (a0_1:Int):Option ((List (S23))):=each_prop.l0 est all k ([]:List (S23)) l0_0 (l0_0.length:Int) 0
theorem each_prop.mono_l (est all:Int):∀ k,(∀ y0 y1 y2 y3,LeO (each_prop.l0 est all k y0 y1 y2 y3) (each_prop.l0 est all (k + 1) y0 y1 y2 y3))
 | 0=>fun _ _ _ _ r h=>by simp [each_prop.l0] at h
 | k + 1=>by
  have ih0:=each_prop.mono_l est all k
  intro y0 y1 y2 y3
  unfold each_prop.l0
  repeat' first
  | (with_reducible exact ih0 _ _ _ _)
  | (with_reducible exact prop_1.mono _ _ _ _)
  | (with_reducible exact LeO.refl _)
  | (with_reducible exact LeO.none _)
  | (with_reducible refine LeO.ite ?_ ?_)
  | (with_reducible refine LeO.bind ?_ (fun _=>?_))
  | exact ih0 _ _ _ _
  | exact prop_1.mono _ _ _ _
  | exact LeO.none _
  | refine LeO.ite ?_ ?_
  | refine LeO.bind ?_ (fun _=>?_)
theorem each_prop.mono (est all:Int):∀ a0 a1 k,LeO (each_prop.f est all k a0 a1) (each_prop.f est all (k + 1) a0 a1):=by
 intro a0 a1 k
 have ih0:=each_prop.mono_l est all k
 unfold each_prop.f
 repeat' first
   | (with_reducible exact ih0 _ _ _ _)
   | (with_reducible exact prop_1.mono _ _ _ _)
   | (with_reducible exact LeO.refl _)
   | (with_reducible exact LeO.none _)
   | (with_reducible refine LeO.ite ?_ ?_)
   | (with_reducible refine LeO.bind ?_ (fun _=>?_))
   | exact ih0 _ _ _ _
   | exact prop_1.mono _ _ _ _
   | exact LeO.none _
   | refine LeO.ite ?_ ?_
   | refine LeO.bind ?_ (fun _=>?_)
set_option maxHeartbeats 8000000 in
set_option maxRecDepth 100000 in
theorem each_prop.calls (est all:Int) (k:Nat) (A0_0:Option Addr) (c0_0:Nat) (l0_0:List Int) (a0_1:Int) (r:List (S23)) (w:World) (gbC gbA:Nat) (A:Option Addr) (c n:Nat) (BK0:w.heap[gbC]? = some (.cells #[.slice A n c,.int .i64 est] 94 (0,0))) (BK1:w.heap[gbA]? = some (.cells #[.int .i64 all] 3 (0,0))) (hr0_0:Kd.C (Kd.int .i64) w A0_0 l0_0.length l0_0) (hc0_0:l0_0.length ≤ c0_0) (h:each_prop.f est all k l0_0 a0_1 = some r) :
  Calls Try.prog 120 #[.agg #[.slice A0_0 l0_0.length c0_0,.int .i64 a0_1],.func (.func 121) #[] #[.pointer (some ⟨gbC,0,none⟩),.pointer (some ⟨gbA,0,none⟩)]] w fun e w'=>∃ v0_:Value,e = .returned (v0_) ∧ Kd.R k23 23 w' w.heap.size (fun _=>True) v0_ r ∧ Below w.heap.size w w':=by
 have hu94:=Try.underlying94
 have BKC:=Aside0.mk BK0
 have BKA:=Aside0.mk BK1
 clear BK0 BK1
 have HR0_0:=Aside0.mk hr0_0
 have HC0_0:=Aside0.mk hc0_0
 clear hr0_0 hc0_0
 have HB:=Aside0.mk (Below.refl w.heap.size w)
 have H:(each_prop.l0 est all k ([]:List (S23)) l0_0 (l0_0.length:Int) 0) = some r:=h
 clear h
 have H':=Aside0.mk H
 clear H
 go_enter Try.func120,Try.ntmps120
 go_wp2_with (first | ((with_reducible refine gate_dst (N:=2) rfl ?_);refine box_event ?hg (N:=2) ?hd (cs:=#[.slice A0_0 l0_0.length c0_0,.int .i64 a0_1]) (t:=94) ?hr ?_;(case hd=>rfl);(case hg=>rfl);(case hr=>first | (go_simp;done) | (go_simp;rfl));intro gb1609 hg w2 hbox hb;have n0_:=Aside0.mk (below_step (by repeat (first | (with_reducible first | exact HB.out | apply below_alloc | apply pw_below_drewN | apply below_drew1) | exact HB.out)) hb);have n1_:=Aside0.mk (hbox);have n2_:=Aside0.mk ((by rw [hg];exact (below_size (by repeat (first | (with_reducible first | exact HB.out | apply below_alloc | apply pw_below_drewN | apply below_drew1) | exact HB.out))):w.heap.size ≤ gb1609));have n3_:=Aside0.mk ((by rw [hg];exact (below_size (by repeat (first | (with_reducible first | exact HB.out | apply below_alloc | apply pw_below_drewN | apply below_drew1) | exact HB.out))):w.heap.size ≤ gb1609));clear HB;have HB:=n0_;have BK1609:=n1_;have GW1609:=n2_;have GE1609:=n3_;clear n0_ n1_ n2_ n3_;clear hb hbox hg;have hcz3_0:w2.cell? ⟨gb1609,0,none⟩ = some (.slice A0_0 l0_0.length c0_0):=(blk_cell BK1609.out 0).trans rfl;have hcz3_1:w2.cell? ⟨gb1609,1,none⟩ = some (.int .i64 a0_1):=(blk_cell BK1609.out 1).trans rfl;have hfz3_0:=blk_frozen BK1609.out 0;have hfz3_1:=blk_frozen BK1609.out 1))
 go_loopg [5,11] k (fun kq v5 v11 w'=>∃ (x5_1:List (S23)) (x11_1:Int),v11 = .int .i64 x11_1 ∧ Aside0 (each_prop.l0 est all kq x5_1 l0_0 (l0_0.length:Int) x11_1 = some r) ∧ Aside0 (kq ≤ k) ∧ Aside0 (Kd.R k23 23 w' w.heap.size (fun _=>True) v5 x5_1) ∧ Aside0 (w'.heap[gb1609]? = some (.cells #[(.slice A0_0 l0_0.length c0_0),.int .i64 a0_1] 94 (0,0))) ∧ Aside0 (Below w.heap.size w w'))
 case atStart=>exact ⟨(([]:List (S23))),(0),(by first | rfl | (simp;done) | (simp [*];done)),H',⟨Nat.le_refl _⟩,⟨by first | exact Kd.R_nil _ _ _ _ _ | exact Kd.N_nil _ _ _ _ _ | exact Kd.V_nil _ _ _ _ _ | exact Kd.Q_nil _ _ _ _ _ | exact Kd.S_nil _ _ _ _ _⟩,⟨by (with_reducible repeat (first | refine blk_drewN ?_ _ | refine blk_drew ?_ | refine blk_alloc ?_ _));exact BK1609.out⟩,⟨by repeat (first | (with_reducible first | exact HB.out | apply below_alloc | apply pw_below_drewN | apply below_drew1 | refine below_set ?_ GE1609.out) | exact HB.out)⟩⟩
 case round =>
  clear H'
  try clear c1
  try clear p2
  try clear hcz3_0
  try clear hcz3_1
  try clear hfz3_0
  try clear hfz3_1
  obtain ⟨x5_1,x11_1,rfl,HA,HK1,HO_5,BK1609,HB⟩:=hrel
  cases gk with
  | zero=>exact absurd HA.out (by simp [each_prop.l0])
  | succ k1 =>
   have H:=HA.out
   clear HA
   simp only [each_prop.l0] at H
   by_cases c4:x11_1 < (l0_0.length:Int)
   case neg =>
    rw [if_neg c4] at H
    have c4b0:decide (x11_1 < (l0_0.length:Int)) = false:=decide_eq_false c4
    clear c4
    obtain rfl:=Option.some.inj H
    go_wp2
    go_ret
    exact ⟨_,by first | rfl | (simp [errW_none,errW_some] <;> rfl) | (simp [*,errW_none,errW_some] <;> rfl),by (with_reducible repeat (first | apply Kd.R_alloc | apply Kd.R_drewN | apply Kd.R_drew));exact HO_5.out,by repeat (first | (with_reducible first | exact HB.out | apply below_alloc | apply pw_below_drewN | apply below_drew1 | refine below_set ?_ GE1609.out) | exact HB.out)⟩
   rw [if_pos c4] at H
   have c4b0:decide (x11_1 < (l0_0.length:Int)) = true:=decide_eq_true c4
   clear c4
   by_cases c5:0 ≤ x11_1
   case neg =>
    rw [if_neg c5] at H
    exact absurd H (by simp)
   rw [if_pos c5] at H
   have c5b0:decide (0 ≤ x11_1) = true:=decide_eq_true c5
   clear c5
   by_cases c6:x11_1 < (l0_0.length:Int)
   case neg =>
    rw [if_neg c6] at H
    exact absurd H (by simp)
   rw [if_pos c6] at H
   have c6b0:decide (x11_1 < (l0_0.length:Int)) = true:=decide_eq_true c6
   clear c6
   replace H:=Option.bind_eq_some_iff.mp H
   obtain ⟨⟨t1611,t1612⟩,A70,H⟩:=H
   replace H:(if x5_1.length < 8796093022208 then (each_prop.l0 est all k1 (x5_1 ++ [(⟨t1611,t1612⟩:S23)]) l0_0 (l0_0.length:Int) (wrap64 (x11_1 + 1))) else (none)) = some r:=H
   have A7:=Aside0.mk A70
   clear A70
   by_cases c8:x5_1.length < 8796093022208
   case neg =>
    rw [if_neg c8] at H
    exact absurd H (by simp)
   rw [if_pos c8] at H
   have LMc8:=Aside0.mk c8
   clear c8
   obtain ⟨y1613,hy1613⟩:∃ y_:List (S23),y_ = (x5_1 ++ [(⟨t1611,t1612⟩:S23)]):=⟨_,rfl⟩
   replace H:(each_prop.l0 est all k1 y1613 l0_0 (l0_0.length:Int) (wrap64 (x11_1 + 1))) = some r:=by first | (rw [hy1613];with_reducible exact H) | (have H2_:=(Option.bind_some _ _).symm.trans H;rw [hy1613];with_reducible exact H2_) | (have H2_:=(Option.bind_some _ _).symm.trans H;with_reducible exact H2_) | with_reducible exact H | (rw [hy1613];exact H) | exact H
   have Ny1613:=Aside0.mk hy1613
   clear hy1613
   have H':=Aside0.mk H
   clear H
   have p1610:0 ≤ (x11_1:Int):=of_decide_eq_true (by first | (with_reducible assumption) | assumption)
   have q1610:x11_1 < (l0_0.length:Int):=of_decide_eq_true (by first | (with_reducible assumption) | assumption)
   obtain ⟨ad1610,e1610,hx1610_0⟩:=Kd.at_int HR0_0.out x11_1 p1610 q1610
   cases e1610
   replace hx1610_0:=(HB.out.cell (World.block_lt_of_cell? w _ hx1610_0)).trans hx1610_0
   replace p1610:=eq_true p1610
   replace q1610:=eq_true q1610
   go_wp2_with (first | (go_at_call 121;(with_reducible refine (prop_1.calls k1 (rd l0_0 x11_1) est all t1611 t1612 _ gbC gbA A c n (blk_below (g:=gbC) (o:=.cells #[.slice A n c,.int .i64 est] 94 (0,0)) BKC.out (by repeat (first | (with_reducible first | exact HB.out | apply below_alloc | apply pw_below_drewN | apply below_drew1 | refine below_set ?_ GE1609.out) | exact HB.out))) (blk_below (g:=gbA) (o:=.cells #[.int .i64 all] 3 (0,0)) BKA.out (by repeat (first | (with_reducible first | exact HB.out | apply below_alloc | apply pw_below_drewN | apply below_drew1 | refine below_set ?_ GE1609.out) | exact HB.out))) A7.out).mono ?_);rintro e w9 ⟨rfl,hb⟩;have n0_:=Aside0.mk (Kd.R_below (by (with_reducible repeat (first | apply Kd.R_alloc | apply Kd.R_drewN | apply Kd.R_drew));exact HO_5.out) hb);have n1_:=Aside0.mk (blk_below (g:=gb1609) (o:=.cells #[.slice (some ad1610) l0_0.length c0_0,.int .i64 a0_1] 94 (0,0)) (by (with_reducible repeat (first | refine blk_drewN ?_ _ | refine blk_drew ?_ | refine blk_alloc ?_ _));exact BK1609.out) hb);have n2_:=Aside0.mk (below_step (by repeat (first | (with_reducible first | exact HB.out | apply below_alloc | apply pw_below_drewN | apply below_drew1 | refine below_set ?_ GE1609.out) | exact HB.out)) hb);clear HO_5;clear BK1609;clear HB;have HO_5:=n0_;have BK1609:=n1_;have HB:=n2_;clear n0_ n1_ n2_;(try clear hb);(try clear hb2);(try clear hk);(try clear hi)) | ((with_reducible refine gate_builtin (b:=.append) (xs:=#[.tmp 15,.tmp 19]) rfl ?_);at_builtin;refine Kd.R_append k23 (w0:=w) w.heap.size rfl (.tmp 15) (.tmp 19) 35 23 (.agg #[(.int .i64 0),(.int .i64 0)]) 16 rfl Try.underlying35 info23 rfl (by decide) (by omega) u5 x5_1 (⟨t1611,t1612⟩:S23) [.int .i64 t1611,.int .i64 t1612] (fun _=>True) (fun _=>False) rfl rfl ?aP (fun _ hk=>hk.elim) ?aF ?aO ?aB ?aS ?aL ?_;(case aP=>exact k23_mkM _ _ _ (⟨t1611,t1612⟩:S23));(case aB=>exact (by repeat (first | (with_reducible first | exact HB.out | apply below_alloc | apply pw_below_drewN | apply below_drew1 | refine below_set ?_ GE1609.out) | exact HB.out)));(case aF=>exact (fun _ _=>trivial));(case aO=>exact (by (with_reducible repeat (first | apply Kd.R_alloc | apply Kd.R_drewN | apply Kd.R_drew));exact HO_5.out));(case aS=>exact (below_size (by repeat (first | (with_reducible first | exact HB.out | apply below_alloc | apply pw_below_drewN | apply below_drew1 | refine below_set ?_ GE1609.out) | exact HB.out))));(case aL=>have:=LMc8.out;omega);intro v1614 w10 ho hb hg hat;rw [← Ny1613.out] at ho;have n0_:=Aside0.mk (blk_grown (g:=gb1609) (o:=.cells #[.slice (some ad1610) l0_0.length c0_0,.int .i64 a0_1] 94 (0,0)) (by (with_reducible repeat (first | refine blk_drewN ?_ _ | refine blk_drew ?_ | refine blk_alloc ?_ _));exact BK1609.out) hg (Kd.R_ne HO_5.out BK1609.out (by decide)));have n1_:=Aside0.mk (hb);have n2_:=Aside0.mk (ho);clear BK1609;clear HB;clear HO_5;have BK1609:=n0_;have HB:=n1_;have HO1615:=n2_;clear n0_ n1_ n2_;clear ho hb hg hat))
   go_roundg k1
   case measure=>have:=HK1.out;omega
   case rel=>exact ⟨(y1613),(wrap64 (x11_1 + 1)),(by first | rfl | (simp;done) | (simp [*];done)),H',⟨by have:=HK1.out;omega⟩,⟨by (with_reducible repeat (first | apply Kd.R_alloc | apply Kd.R_drewN | apply Kd.R_drew));exact HO1615.out⟩,⟨by (with_reducible repeat (first | refine blk_drewN ?_ _ | refine blk_drew ?_ | refine blk_alloc ?_ _));exact BK1609.out⟩,⟨by repeat (first | (with_reducible first | exact HB.out | apply below_alloc | apply pw_below_drewN | apply below_drew1 | refine below_set ?_ GE1609.out) | exact HB.out)⟩⟩
def shares_claims_proportional.f (k:Nat) (l0_0:List Int) (a0_1:Int):Option (List (S23)):=(shares_total.f k l0_0).bind fun t=>each_prop.f a0_1 (mx 1 t) k l0_0 a0_1
theorem shares_claims_proportional.mono:∀ a0 a1 k,LeO (shares_claims_proportional.f k a0 a1) (shares_claims_proportional.f (k + 1) a0 a1):=by
 intro a0 a1 k
 unfold shares_claims_proportional.f
 exact LeO.bind (shares_total.mono _ _) (fun _=>each_prop.mono _ _ _ _ _)
set_option maxHeartbeats 8000000 in
set_option maxRecDepth 100000 in
theorem shares_claims_proportional.calls (k:Nat) (A0_0:Option Addr) (c0_0:Nat) (l0_0:List Int) (a0_1:Int) (r:List (S23)) (w:World) (hr0_0:Kd.C (Kd.int .i64) w A0_0 l0_0.length l0_0) (hc0_0:l0_0.length ≤ c0_0) (h:shares_claims_proportional.f k l0_0 a0_1 = some r) :
  Calls Try.prog 97 #[.agg #[.slice A0_0 l0_0.length c0_0,.int .i64 a0_1]] w fun e w'=>∃ v0_:Value,e = .returned (v0_) ∧ Kd.R k23 23 w' w.heap.size (fun _=>True) v0_ r ∧ Below w.heap.size w w':=by
 have hu94:=Try.underlying94
 have HR0:=Aside0.mk hr0_0
 have HC0:=Aside0.mk hc0_0
 clear hr0_0 hc0_0
 have HB:=Aside0.mk (Below.refl w.heap.size w)
 unfold shares_claims_proportional.f at h
 obtain ⟨t,h1,h2⟩:=Option.bind_eq_some_iff.1 h
 have A1:=Aside0.mk h1
 have A2:=Aside0.mk h2
 clear h h1 h2
 go_enter Try.func97,Try.ntmps97
 go_wp2_with (first | ((with_reducible refine gate_dst (N:=1) rfl ?_);refine box_event ?hg (N:=1) ?hd (cs:=#[.slice A0_0 l0_0.length c0_0,.int .i64 a0_1]) (t:=94) ?hr ?_;(case hd=>rfl);(case hg=>rfl);(case hr=>first | (go_simp;done) | (go_simp;rfl));intro gbC hg w2 hbox hb;have n0_:=Aside0.mk (below_step HB.out hb);have n1_:=Aside0.mk hbox;clear HB;have HB:=n0_;have BKC:=n1_;clear n0_ n1_;clear hb hbox hg;have hczC:=(blk_cell BKC.out 0).trans rfl))
 refine (shares_total.calls k A0_0 c0_0 l0_0 t _ (Kd.C_below HR0.out HB.out) HC0.out A1.out).mono ?_
 rintro e w3 ⟨rfl,⟨n3,rfl⟩⟩
 clear hczC
 have HB3:=Aside0.mk (pw_below_drewN HB.out n3)
 have BKC3:=Aside0.mk (blk_drewN BKC.out n3)
 clear HB BKC
 by_cases hm:1 < t
 all_goals
  go_wp2_with (first | ((with_reducible refine gate_dst (N:=3) rfl ?_);refine box_event ?hg (N:=3) ?hd (cs:=#[.int .i64 0]) (t:=3) ?hr ?_;(case hd=>rfl);(case hg=>rfl);(case hr=>first | (go_simp;done) | (go_simp;rfl));intro gbA hg w4 hbox hb;have n0_:=Aside0.mk (below_step HB3.out hb);have n1_:=Aside0.mk hbox;have n2_:=Aside0.mk (blk_below (g:=gbC) (o:=.cells #[.slice A0_0 l0_0.length c0_0,.int .i64 a0_1] 94 (0,0)) BKC3.out hb);have n3_:=Aside0.mk (by rw [hg];exact HB3.out.size:w.heap.size ≤ gbA);have n4_:=Aside0.mk (by rw [hg];exact Nat.ne_of_gt (blk_lt BKC3.out):gbA ≠ gbC);clear HB3 BKC3;have HB:=n0_;have BKA:=n1_;have BKC:=n2_;have GEA:=n3_;have NEA:=n4_;clear n0_ n1_ n2_ n3_ n4_;clear hb hbox hg;have hczA:=(blk_cell BKA.out 0).trans rfl;have hfzA:=blk_frozen BKA.out 0;have hczC:=(blk_cell BKC.out 0).trans rfl;have hczC1:=(blk_cell BKC.out 1).trans rfl;have hne:=NEA.out))
  first
   | (have hx:mx 1 t = t:=by unfold mx;rw [if_pos (by first | exact hm | assumption | omega)])
   | (have hx:mx 1 t = 1:=by unfold mx;rw [if_neg (by first | exact hm | assumption | omega)])
  have A3:=A2.out
  rw [hx] at A3
  clear hx hczA hfzA hczC hczC1 hne
  refine (each_prop.calls a0_1 _ k A0_0 c0_0 l0_0 a0_1 r _ gbC gbA A0_0 c0_0 l0_0.length (blk_far BKC.out (by exact fun e=>NEA.out e.symm) _) (blk_put BKA.out 0 _ rfl) (Kd.C_below HR0.out (below_set HB.out GEA.out)) HC0.out A3).mono ?_
  rintro e w5 ⟨v,rfl,hr,hb⟩
  have HR5:=Aside0.mk (Kd.R_lower hr (below_set (j:=0) HB.out GEA.out).size)
  have HB5:=Aside0.mk (below_step (below_set HB.out GEA.out) hb)
  clear hr hb
  go_wp2
  go_ret
  exact ⟨_,rfl,HR5.out,HB5.out⟩
end Go.Proofs.Ytjohcjfmlhihbaa.G
namespace Go.Proofs.Ytjohcjfmlhihbaa.G
open Go Go.RowKit Go.Shelf Go.Proofs.Ytjohcjfmlhihbaa.H Go.Proofs.YtjohcjfmlhihbaaW.PrintWords
attribute [local go_sem] Oper.semAt_some wide_fn
def newClaimsR.f (k:Nat) (l0:List Int) (a1:Int):Option Bool:=(shares_newClaims.f k l0 a1).map fun x=>x.2.2
theorem newClaimsR.mono:∀ l0 a1 k,LeO (newClaimsR.f k l0 a1) (newClaimsR.f (k + 1) l0 a1):=by
 intro l0 a1 k r h
 unfold newClaimsR.f at h ⊢
 obtain ⟨x,hx,rfl⟩:=Option.map_eq_some_iff.1 h
 rw [shares_newClaims.mono _ _ _ x hx]
 rfl
theorem newClaimsR.parts {k:Nat} {l0:List Int} {a1:Int} {r:Bool} (h:newClaimsR.f k l0 a1 = some r) :
  (shares_areClaims.f l0 = some false ∧ r = false) ∨ (shares_areClaims.f l0 = some true ∧ ∃ t,shares_total.f k l0 = some t ∧ r = decide (0 ≤ a1 ∧ a1 ≤ t)):=by
 unfold newClaimsR.f shares_newClaims.f at h
 obtain ⟨x,hx,rfl⟩:=Option.map_eq_some_iff.1 h
 obtain ⟨b,hb,hx⟩:=Option.bind_eq_some_iff.1 hx
 cases b with
 | false =>
  rw [if_neg (by decide)] at hx
  obtain rfl:=Option.some.inj hx
  exact .inl ⟨hb,rfl⟩
 | true =>
  rw [if_pos rfl] at hx
  obtain ⟨t,ht,hx⟩:=Option.bind_eq_some_iff.1 hx
  obtain ⟨q,hq,hx⟩:=Option.bind_eq_some_iff.1 hx
  obtain rfl:=Option.some.inj hx
  refine .inr ⟨hb,t,ht,?_⟩
  unfold shares_within.f at hq
  by_cases g:a1 ≥ 0
  case neg =>
   rw [if_neg g] at hq
   obtain rfl:=Option.some.inj hq
   show false = decide (0 ≤ a1 ∧ a1 ≤ t)
   rw [eq_comm,decide_eq_false_iff_not]
   exact fun k=>g k.1
  rw [if_pos g] at hq
  obtain rfl:=Option.some.inj hq
  show decide (a1 ≤ t) = decide (0 ≤ a1 ∧ a1 ≤ t)
  rw [Bool.eq_iff_iff,decide_eq_true_iff,decide_eq_true_iff]
  exact ⟨fun k=>⟨g,k⟩,fun k=>k.2⟩
set_option maxHeartbeats 2000000 in
theorem newClaimsR.calls (k:Nat) (A0:Option Addr) (c0:Nat) (l0:List Int) (a1:Int) (r:Bool) (w:World) (hr0:Kd.C (Kd.int .i64) w A0 l0.length l0) (hc0:l0.length ≤ c0) (h:newClaimsR.f k l0 a1 = some r) :
  Calls Try.prog 62 #[.slice A0 l0.length c0,.int .i64 a1] w fun e w'=>e = .returned (.tuple #[.agg #[.slice A0 l0.length c0,.int .i64 a1],.bool r]) ∧ Below w.heap.size w w':=by
 refine (callsIn_wide (n:=9)).1 ?_
 refine callsIn_of_wp Try.func62 rfl trivial ?_
 simp only [Try.ntmps62,List.size_toArray,List.length_cons,List.length_nil,Nat.reduceAdd,Nat.reduceSub,Array.replicate_succ,Array.replicate_zero,List.push_toArray,List.append_toArray,List.nil_append,List.cons_append]
 have HL:=Lib.hid (Kd.C_alloc hr0 (.cells #[.slice none 0 0,.int .i64 0] 94))
 obtain ⟨a,b,c⟩:=lay1 w (.cells #[.slice none 0 0,.int .i64 0] 94)
 have HA:=Lib.hid a
 have HS:=Lib.hid b
 have HB:=Lib.hid c
 have HH:=Lib.hid (newClaimsR.parts h)
 clear h hr0 a b c
 gi_wp2_with fail
 rcases HH.out with ⟨h1,rfl⟩ | ⟨h1,t,h2,rfl⟩
 ·refine (callsIn_wide.2 (shares_areClaims.calls A0 c0 l0 false _ HL.out hc0 h1)).mono ?_
  rintro e w1 ⟨rfl,hb⟩
  have hc:=(hb.block _ (by rw [HS.out];omega)).trans HA.out
  have HC:=Lib.hid hc
  have k0:=(blk_cell hc 0).trans rfl
  have k1:=(blk_cell hc 1).trans rfl
  have f0:=blk_frozen hc 0
  have f1:=blk_frozen hc 1
  have HB1:=Lib.hid (HB.out.trans (hb.mono HB.out.size))
  clear hb h1 hc
  gi_wp2_with fail
  refine bodyPost_ret (results_ct rfl _ _ w.heap.size 94 #[.slice A0 l0.length c0,.int .i64 a1] (0,0) _ rfl (blk_put (blk_put HC.out 0 _ rfl) 1 _ rfl) Try.underlying94 rfl (by kernel_rfl)) rfl ⟨rfl,below_set (below_set HB1.out (Nat.le_refl _)) (Nat.le_refl _)⟩
 refine (callsIn_wide.2 (shares_areClaims.calls A0 c0 l0 true _ HL.out hc0 h1)).mono ?_
 rintro e w1 ⟨rfl,hb⟩
 have hc:=(hb.block _ (by rw [HS.out];omega)).trans HA.out
 have HC:=Lib.hid hc
 have k0:=(blk_cell hc 0).trans rfl
 have k1:=(blk_cell hc 1).trans rfl
 have f0:=blk_frozen hc 0
 have f1:=blk_frozen hc 1
 have HL1:=Lib.hid (Kd.C_below HL.out hb)
 have HB1:=Lib.hid (HB.out.trans (hb.mono HB.out.size))
 clear hb h1 hc
 gi_wp2_with fail
 refine (callsIn_wide.2 (shares_total.calls k A0 c0 l0 t _ HL1.out hc0 h2)).mono ?_
 rintro e w2 ⟨rfl,⟨n2,rfl⟩⟩
 gi_wp2_with fail
 refine (callsIn_wide.2 (within_val a1 0 t _)).mono ?_
 rintro e w3 ⟨rfl,⟨n3,rfl⟩⟩
 obtain ⟨q,hq⟩:∃ q,decide (0 ≤ a1 ∧ a1 ≤ t) = q:=⟨_,rfl⟩
 rw [hq]
 have HQ:=Lib.hid hq
 clear hq
 gi_wp2_with fail
 exact bodyPost_ret (results_ct rfl _ _ w.heap.size 94 #[.slice A0 l0.length c0,.int .i64 a1] (0,0) _ rfl (blk_put (blk_put (blk_drewN HC.out _) 0 _ rfl) 1 _ rfl) Try.underlying94 rfl (by kernel_rfl)) rfl ⟨by rw [HQ.out];rfl,below_set (below_set (below_drewN HB1.out _) (Nat.le_refl _)) (Nat.le_refl _)⟩
end Go.Proofs.Ytjohcjfmlhihbaa.G
namespace Go.Proofs.Ytjohcjfmlhihbaa.G
open Go.RowKit Go.Proofs.YtjohcjfmlhihbaaW.PrintWords Go.Proofs.YtjohcjfmlhihbaaW.PrintLast Go.Proofs.YtjohcjfmlhihbaaW.PrintMore
set_option maxHeartbeats 8000000
set_option maxRecDepth 100000
attribute [local go_sem] cond_true cond_false fld23_0 fld23_1 fld45_0 fld45_1 fld109_0 fld109_1 fld94_0 fld94_1 max2_int min2_int max_two min_two max_three min_three max_four min_four   -- for this text's walks alone
def each_whole.l0:Nat → List (S23) → List Int → Int → Int → Option ((List (S23)))
 | 0,_,_,_,_=>none
 | k + 1,x5,x9,x10,x11=>if x11 < x10 then (if 0 ≤ x11 then (if x11 < (x9.length:Int) then ((shares_whole.f (rd x9 x11)).bind fun bt1576=>(if x5.length < 8796093022208 then (each_whole.l0 k (x5 ++ [(⟨bt1576.1,bt1576.2⟩:S23)]) x9 x10 (wrap64 (x11 + 1))) else (none))) else (none)) else (none)) else (some x5)
def each_whole.f (k:Nat) (l0_0:List Int) (a0_1:Int):Option ((List (S23))):=each_whole.l0 k ([]:List (S23)) l0_0 (l0_0.length:Int) 0
theorem each_whole.mono_l:∀ k,(∀ y0 y1 y2 y3,LeO (each_whole.l0 k y0 y1 y2 y3) (each_whole.l0 (k + 1) y0 y1 y2 y3))
 | 0=>fun _ _ _ _ r h=>by simp [each_whole.l0] at h
 | k + 1=>by
  have ih0:=each_whole.mono_l k
  intro y0 y1 y2 y3
  unfold each_whole.l0
  repeat' first
  | (with_reducible exact ih0 _ _ _ _)
  | (with_reducible exact LeO.refl _)
  | (with_reducible exact LeO.none _)
  | (with_reducible refine LeO.ite ?_ ?_)
  | (with_reducible refine LeO.bind ?_ (fun _=>?_))
  | exact ih0 _ _ _ _
  | exact LeO.none _
  | refine LeO.ite ?_ ?_
  | refine LeO.bind ?_ (fun _=>?_)
theorem each_whole.mono:∀ a0 a1 k,LeO (each_whole.f k a0 a1) (each_whole.f (k + 1) a0 a1):=by
 intro a0 a1 k
 have ih0:=each_whole.mono_l k
 unfold each_whole.f
 repeat' first
   | (with_reducible exact ih0 _ _ _ _)
   | (with_reducible exact LeO.refl _)
   | (with_reducible exact LeO.none _)
   | (with_reducible refine LeO.ite ?_ ?_)
   | (with_reducible refine LeO.bind ?_ (fun _=>?_))
   | exact ih0 _ _ _ _
   | exact LeO.none _
   | refine LeO.ite ?_ ?_
   | refine LeO.bind ?_ (fun _=>?_)
theorem each_whole.calls (k:Nat) (A0_0:Option Addr) (c0_0:Nat) (l0_0:List Int) (a0_1:Int) (r:List (S23)) (w:World) (hr0_0:Kd.C (Kd.int .i64) w A0_0 l0_0.length l0_0) (hc0_0:l0_0.length ≤ c0_0) (h:each_whole.f k l0_0 a0_1 = some r) :
  Calls Try.prog 120 #[.agg #[.slice A0_0 l0_0.length c0_0,.int .i64 a0_1],.func (.func 64) #[] #[]] w fun e w'=>∃ v0_:Value,e = .returned (v0_) ∧ Kd.R k23 23 w' w.heap.size (fun _=>True) v0_ r ∧ Below w.heap.size w w':=by
 have hu94:=Try.underlying94
 have HR0_0:=Aside0.mk hr0_0
 have HC0_0:=Aside0.mk hc0_0
 clear hr0_0 hc0_0
 have HB:=Aside0.mk (Below.refl w.heap.size w)
 have H:(each_whole.l0 k ([]:List (S23)) l0_0 (l0_0.length:Int) 0) = some r:=h
 clear h
 have H':=Aside0.mk H
 clear H
 go_enter Try.func120,Try.ntmps120
 go_wp2_with (first | ((with_reducible refine gate_dst (N:=2) rfl ?_);refine box_event ?hg (N:=2) ?hd (cs:=#[.slice A0_0 l0_0.length c0_0,.int .i64 a0_1]) (t:=94) ?hr ?_;(case hd=>rfl);(case hg=>rfl);(case hr=>first | (go_simp;done) | (go_simp;rfl));intro gb1574 hg w2 hbox hb;have n0_:=Aside0.mk (below_step (by repeat (first | (with_reducible first | exact HB.out | apply below_alloc | apply pw_below_drewN | apply below_drew1) | exact HB.out)) hb);have n1_:=Aside0.mk (hbox);have n2_:=Aside0.mk ((by rw [hg];exact (below_size (by repeat (first | (with_reducible first | exact HB.out | apply below_alloc | apply pw_below_drewN | apply below_drew1) | exact HB.out))):w.heap.size ≤ gb1574));have n3_:=Aside0.mk ((by rw [hg];exact (below_size (by repeat (first | (with_reducible first | exact HB.out | apply below_alloc | apply pw_below_drewN | apply below_drew1) | exact HB.out))):w.heap.size ≤ gb1574));clear HB;have HB:=n0_;have BK1574:=n1_;have GW1574:=n2_;have GE1574:=n3_;clear n0_ n1_ n2_ n3_;clear hb hbox hg;have hcz3_0:w2.cell? ⟨gb1574,0,none⟩ = some (.slice A0_0 l0_0.length c0_0):=(blk_cell BK1574.out 0).trans rfl;have hcz3_1:w2.cell? ⟨gb1574,1,none⟩ = some (.int .i64 a0_1):=(blk_cell BK1574.out 1).trans rfl;have hfz3_0:=blk_frozen BK1574.out 0;have hfz3_1:=blk_frozen BK1574.out 1))
 go_loopg [5,11] k (fun kq v5 v11 w'=>∃ (x5_1:List (S23)) (x11_1:Int),v11 = .int .i64 x11_1 ∧ Aside0 (each_whole.l0 kq x5_1 l0_0 (l0_0.length:Int) x11_1 = some r) ∧ Aside0 (kq ≤ k) ∧ Aside0 (Kd.R k23 23 w' w.heap.size (fun _=>True) v5 x5_1) ∧ Aside0 (w'.heap[gb1574]? = some (.cells #[(.slice A0_0 l0_0.length c0_0),.int .i64 a0_1] 94 (0,0))) ∧ Aside0 (Below w.heap.size w w'))
 case atStart=>exact ⟨(([]:List (S23))),(0),(by first | rfl | (simp;done) | (simp [*];done)),H',⟨Nat.le_refl _⟩,⟨by first | exact Kd.R_nil _ _ _ _ _ | exact Kd.N_nil _ _ _ _ _ | exact Kd.V_nil _ _ _ _ _ | exact Kd.Q_nil _ _ _ _ _ | exact Kd.S_nil _ _ _ _ _⟩,⟨by (with_reducible repeat (first | refine blk_drewN ?_ _ | refine blk_drew ?_ | refine blk_alloc ?_ _));exact BK1574.out⟩,⟨by repeat (first | (with_reducible first | exact HB.out | apply below_alloc | apply pw_below_drewN | apply below_drew1 | refine below_set ?_ GE1574.out) | exact HB.out)⟩⟩
 case round =>
  clear H'
  try clear c1
  try clear p2
  try clear hcz3_0
  try clear hcz3_1
  try clear hfz3_0
  try clear hfz3_1
  obtain ⟨x5_1,x11_1,rfl,HA,HK1,HO_5,BK1574,HB⟩:=hrel
  cases gk with
  | zero=>exact absurd HA.out (by simp [each_whole.l0])
  | succ k1 =>
   have H:=HA.out
   clear HA
   simp only [each_whole.l0] at H
   by_cases c4:x11_1 < (l0_0.length:Int)
   case neg =>
    rw [if_neg c4] at H
    have c4b0:decide (x11_1 < (l0_0.length:Int)) = false:=decide_eq_false c4
    clear c4
    obtain rfl:=Option.some.inj H
    go_wp2
    go_ret
    exact ⟨_,by first | rfl | (simp [errW_none,errW_some] <;> rfl) | (simp [*,errW_none,errW_some] <;> rfl),by (with_reducible repeat (first | apply Kd.R_alloc | apply Kd.R_drewN | apply Kd.R_drew));exact HO_5.out,by repeat (first | (with_reducible first | exact HB.out | apply below_alloc | apply pw_below_drewN | apply below_drew1 | refine below_set ?_ GE1574.out) | exact HB.out)⟩
   rw [if_pos c4] at H
   have c4b0:decide (x11_1 < (l0_0.length:Int)) = true:=decide_eq_true c4
   clear c4
   by_cases c5:0 ≤ x11_1
   case neg =>
    rw [if_neg c5] at H
    exact absurd H (by simp)
   rw [if_pos c5] at H
   have c5b0:decide (0 ≤ x11_1) = true:=decide_eq_true c5
   clear c5
   by_cases c6:x11_1 < (l0_0.length:Int)
   case neg =>
    rw [if_neg c6] at H
    exact absurd H (by simp)
   rw [if_pos c6] at H
   have c6b0:decide (x11_1 < (l0_0.length:Int)) = true:=decide_eq_true c6
   clear c6
   replace H:=Option.bind_eq_some_iff.mp H
   obtain ⟨⟨t1576,t1577⟩,A70,H⟩:=H
   replace H:(if x5_1.length < 8796093022208 then (each_whole.l0 k1 (x5_1 ++ [(⟨t1576,t1577⟩:S23)]) l0_0 (l0_0.length:Int) (wrap64 (x11_1 + 1))) else (none)) = some r:=H
   have A7:=Aside0.mk A70
   clear A70
   by_cases c8:x5_1.length < 8796093022208
   case neg =>
    rw [if_neg c8] at H
    exact absurd H (by simp)
   rw [if_pos c8] at H
   have LMc8:=Aside0.mk c8
   clear c8
   obtain ⟨y1578,hy1578⟩:∃ y_:List (S23),y_ = (x5_1 ++ [(⟨t1576,t1577⟩:S23)]):=⟨_,rfl⟩
   replace H:(each_whole.l0 k1 y1578 l0_0 (l0_0.length:Int) (wrap64 (x11_1 + 1))) = some r:=by first | (rw [hy1578];with_reducible exact H) | (have H2_:=(Option.bind_some _ _).symm.trans H;rw [hy1578];with_reducible exact H2_) | (have H2_:=(Option.bind_some _ _).symm.trans H;with_reducible exact H2_) | with_reducible exact H | (rw [hy1578];exact H) | exact H
   have Ny1578:=Aside0.mk hy1578
   clear hy1578
   have H':=Aside0.mk H
   clear H
   have p1575:0 ≤ (x11_1:Int):=of_decide_eq_true (by first | (with_reducible assumption) | assumption)
   have q1575:x11_1 < (l0_0.length:Int):=of_decide_eq_true (by first | (with_reducible assumption) | assumption)
   obtain ⟨ad1575,e1575,hx1575_0⟩:=Kd.at_int HR0_0.out x11_1 p1575 q1575
   cases e1575
   replace hx1575_0:=(HB.out.cell (World.block_lt_of_cell? w _ hx1575_0)).trans hx1575_0
   replace p1575:=eq_true p1575
   replace q1575:=eq_true q1575
   go_wp2_with (first | (go_at_call 64;(with_reducible refine (shares_whole.calls (rd l0_0 x11_1) t1576 t1577 _ A7.out).mono ?_);rintro e w9 ⟨rfl,hb⟩;have n0_:=Aside0.mk (Kd.R_below (by (with_reducible repeat (first | apply Kd.R_alloc | apply Kd.R_drewN | apply Kd.R_drew));exact HO_5.out) hb);have n1_:=Aside0.mk (blk_below (g:=gb1574) (o:=.cells #[.slice (some ad1575) l0_0.length c0_0,.int .i64 a0_1] 94 (0,0)) (by (with_reducible repeat (first | refine blk_drewN ?_ _ | refine blk_drew ?_ | refine blk_alloc ?_ _));exact BK1574.out) hb);have n2_:=Aside0.mk (below_step (by repeat (first | (with_reducible first | exact HB.out | apply below_alloc | apply pw_below_drewN | apply below_drew1 | refine below_set ?_ GE1574.out) | exact HB.out)) hb);clear HO_5;clear BK1574;clear HB;have HO_5:=n0_;have BK1574:=n1_;have HB:=n2_;clear n0_ n1_ n2_;(try clear hb)) | ((with_reducible refine gate_builtin (b:=.append) (xs:=#[.tmp 15,.tmp 19]) rfl ?_);at_builtin;refine Kd.R_append k23 (w0:=w) w.heap.size rfl (.tmp 15) (.tmp 19) 35 23 (.agg #[(.int .i64 0),(.int .i64 0)]) 16 rfl Try.underlying35 info23 rfl (by decide) (by omega) u5 x5_1 (⟨t1576,t1577⟩:S23) [.int .i64 t1576,.int .i64 t1577] (fun _=>True) (fun _=>False) rfl rfl ?aP (fun _ hk=>hk.elim) ?aF ?aO ?aB ?aS ?aL ?_;(case aP=>exact k23_mkM _ _ _ (⟨t1576,t1577⟩:S23));(case aB=>exact (by repeat (first | (with_reducible first | exact HB.out | apply below_alloc | apply pw_below_drewN | apply below_drew1 | refine below_set ?_ GE1574.out) | exact HB.out)));(case aF=>exact (fun _ _=>trivial));(case aO=>exact (by (with_reducible repeat (first | apply Kd.R_alloc | apply Kd.R_drewN | apply Kd.R_drew));exact HO_5.out));(case aS=>exact (below_size (by repeat (first | (with_reducible first | exact HB.out | apply below_alloc | apply pw_below_drewN | apply below_drew1 | refine below_set ?_ GE1574.out) | exact HB.out))));(case aL=>have:=LMc8.out;omega);intro v1579 w10 ho hb hg hat;rw [← Ny1578.out] at ho;have n0_:=Aside0.mk (blk_grown (g:=gb1574) (o:=.cells #[.slice (some ad1575) l0_0.length c0_0,.int .i64 a0_1] 94 (0,0)) (by (with_reducible repeat (first | refine blk_drewN ?_ _ | refine blk_drew ?_ | refine blk_alloc ?_ _));exact BK1574.out) hg (Kd.R_ne HO_5.out BK1574.out (by decide)));have n1_:=Aside0.mk (hb);have n2_:=Aside0.mk (ho);clear BK1574;clear HB;clear HO_5;have BK1574:=n0_;have HB:=n1_;have HO1580:=n2_;clear n0_ n1_ n2_;clear ho hb hg hat))
   go_roundg k1
   case measure=>have:=HK1.out;omega
   case rel=>exact ⟨(y1578),(wrap64 (x11_1 + 1)),(by first | rfl | (simp;done) | (simp [*];done)),H',⟨by have:=HK1.out;omega⟩,⟨by (with_reducible repeat (first | apply Kd.R_alloc | apply Kd.R_drewN | apply Kd.R_drew));exact HO1580.out⟩,⟨by (with_reducible repeat (first | refine blk_drewN ?_ _ | refine blk_drew ?_ | refine blk_alloc ?_ _));exact BK1574.out⟩,⟨by repeat (first | (with_reducible first | exact HB.out | apply below_alloc | apply pw_below_drewN | apply below_drew1 | refine below_set ?_ GE1574.out) | exact HB.out)⟩⟩
end Go.Proofs.Ytjohcjfmlhihbaa.G
namespace Go.Proofs.Ytjohcjfmlhihbaa.G
open Go.RowKit Go.Proofs.YtjohcjfmlhihbaaW.PrintWords Go.Proofs.YtjohcjfmlhihbaaW.PrintLast Go.Proofs.YtjohcjfmlhihbaaW.PrintMore
set_option maxHeartbeats 8000000
set_option maxRecDepth 100000
attribute [local go_sem] cond_true cond_false fld23_0 fld23_1 fld45_0 fld45_1 fld109_0 fld109_1 fld94_0 fld94_1 max2_int min2_int max_two min_two max_three min_three max_four min_four
def shares_smaller.f (k:Nat) (a0_0:Int) (a0_1:Int) (a1_0:Int) (a1_1:Int):Option (Int × Int):=(shares_compare.f k a0_0 a0_1 a1_0 a1_1).bind fun t1556=>(if t1556 ≤ 0 then (some (a0_0,a0_1)) else (some (a1_0,a1_1)))
theorem shares_smaller.mono:∀ a0 a1 a2 a3 k,LeO (shares_smaller.f k a0 a1 a2 a3) (shares_smaller.f (k + 1) a0 a1 a2 a3):=by
 intro a0 a1 a2 a3 k
 unfold shares_smaller.f
 repeat' first
   | (with_reducible first | exact shares_compare.mono _ _ _ _ _ | exact LeO.refl _ | exact LeO.none _ | refine LeO.ite ?_ ?_ | refine LeO.bind ?_ (fun _=>?_))
   | exact LeO.none _ | refine LeO.ite ?_ ?_ | refine LeO.bind ?_ (fun _=>?_)
theorem shares_smaller.calls (k:Nat) (a0_0:Int) (a0_1:Int) (a1_0:Int) (a1_1:Int) (r1:Int) (r2:Int) (w:World) (h:shares_smaller.f k a0_0 a0_1 a1_0 a1_1 = some (r1,r2)) :
  Calls Try.prog 129 #[.agg #[.int .i64 a0_0,.int .i64 a0_1],.agg #[.int .i64 a1_0,.int .i64 a1_1]] w fun e w'=>e = .returned (.agg #[.int .i64 r1,.int .i64 r2]) ∧ Below w.heap.size w w':=by
 have hu23:=Try.underlying23
 have HB:=A_ (Below.refl w.heap.size w)
 have H:((shares_compare.f k a0_0 a0_1 a1_0 a1_1).bind fun t1556=>(if t1556 ≤ 0 then (some (a0_0,a0_1)) else (some (a1_0,a1_1)))) = some (r1,r2):=h
 clear h
 replace H:=Option.bind_eq_some_iff.mp H
 obtain ⟨t1556,A30,H⟩:=H
 replace H:(if t1556 ≤ 0 then (some (a0_0,a0_1)) else (some (a1_0,a1_1))) = some (r1,r2):=H
 have A3:=A_ A30
 clear A30
 by_cases c4:t1556 ≤ 0
 ·rw [if_pos c4] at H
  have c4b0:=decide_eq_true c4
  clear c4
  simp only [Option.some.injEq,Prod.mk.injEq] at H
  obtain ⟨rfl,rfl⟩:=H
  go_enter Try.func129,Try.ntmps129
  go_wp2_with (first | ((with_reducible refine gate_dst (N:=2) rfl ?_);refine bx 2 #[.int .i64 a0_0,.int .i64 a0_1] 23 ?_;intro gb1553 hg w5 hbox hb;have BK1553:=A_ hbox;have GW1553:=gw hg HB;have GE1553:=GW1553;replace HB:=bB HB hb;clear hb hbox hg) | ((with_reducible refine gate_dst (N:=3) rfl ?_);refine bx 3 #[.int .i64 a1_0,.int .i64 a1_1] 23 ?_;intro gb1554 hg w6 hbox hb;have BK1554:=A_ hbox;have GW1554:=gw hg HB;have GE1554:=GW1554;have NB1553_1554:=nl hg BK1553;have NB1554_1553:=ng hg BK1553;replace BK1553:=kB BK1553 hb;replace HB:=bB HB hb;clear hb hbox hg) | ((with_reducible refine gate_dst (N:=4) rfl ?_);refine bx 4 #[.int .i64 0,.int .i64 0] 23 ?_;intro gb1555 hg w7 hbox hb;have BK1555:=A_ hbox;have GW1555:=gw hg HB;have GE1555:=GW1555;have NB1553_1555:=nl hg BK1553;have NB1555_1553:=ng hg BK1553;have NB1554_1555:=nl hg BK1554;have NB1555_1554:=ng hg BK1554;replace BK1553:=kB BK1553 hb;replace BK1554:=kB BK1554 hb;replace HB:=bB HB hb;clear hb hbox hg;have hnb8:=NB1553_1554.out;have hnc8:=NB1554_1553.out;have hnb9:=NB1553_1555.out;have hnc9:=NB1555_1553.out;have hcz10_0:w7.cell? ⟨gb1553,0,none⟩ = some (.int .i64 a0_0):=cz BK1553 0;have hcz10_1:w7.cell? ⟨gb1553,1,none⟩ = some (.int .i64 a0_1):=cz BK1553 1;have hfz10_0:=blk_frozen BK1553.out 0;have hfz10_1:=blk_frozen BK1553.out 1;have hnb11:=NB1554_1555.out;have hnc11:=NB1555_1554.out;have hcz12_0:w7.cell? ⟨gb1554,0,none⟩ = some (.int .i64 a1_0):=cz BK1554 0;have hcz12_1:w7.cell? ⟨gb1554,1,none⟩ = some (.int .i64 a1_1):=cz BK1554 1;have hfz12_0:=blk_frozen BK1554.out 0;have hfz12_1:=blk_frozen BK1554.out 1) | ((with_reducible refine gate_callee (f:=85) rfl ?_);refine gL (some 7) Try.func85 #[.agg #[.int .i64 a0_0,.int .i64 a0_1],.agg #[.int .i64 a1_0,.int .i64 a1_1]] ?_;(with_reducible refine (shares_compare.calls k a0_0 a0_1 a1_0 a1_1 t1556 _ A3.out).mono ?_);rintro e w13 ⟨rfl,hb⟩;refine ⟨_,rfl,?_⟩;replace BK1553:=kB BK1553 hb;replace BK1554:=kB BK1554 hb;replace BK1555:=kB BK1555 hb;replace HB:=bB HB hb;(try clear hb);have hcz14_0:w13.cell? ⟨gb1553,0,none⟩ = some (.int .i64 a0_0):=cz BK1553 0;have hcz14_1:w13.cell? ⟨gb1553,1,none⟩ = some (.int .i64 a0_1):=cz BK1553 1;have hfz14_0:=blk_frozen BK1553.out 0;have hfz14_1:=blk_frozen BK1553.out 1;have hcz15_0:w13.cell? ⟨gb1555,0,none⟩ = some (.int .i64 0):=cz BK1555 0;have hcz15_1:w13.cell? ⟨gb1555,1,none⟩ = some (.int .i64 0):=cz BK1555 1;have hfz15_0:=blk_frozen BK1555.out 0;have hfz15_1:=blk_frozen BK1555.out 1))
  refine bodyPost_ret (results_cell_row rfl _ _ gb1555 23 #[.int .i64 a0_0,.int .i64 a0_1] (0,0) _ rfl (by (with_reducible repeat (first | refine blk_drewN ?_ _ | refine blk_drew ?_ | refine blk_alloc ?_ _));refine blk_put (cs:=#[.int .i64 a0_0,.int .i64 0]) ?_ 1 _ rfl;(with_reducible repeat (first | refine blk_drewN ?_ _ | refine blk_drew ?_ | refine blk_alloc ?_ _));refine blk_put (cs:=#[.int .i64 0,.int .i64 0]) ?_ 0 _ rfl;(with_reducible repeat (first | refine blk_drewN ?_ _ | refine blk_drew ?_ | refine blk_alloc ?_ _));exact BK1555.out) Try.underlying23 rfl (by kernel_rfl)) rfl ?_
  exact ⟨rfl,bl HB⟩
 rw [if_neg c4] at H
 have c4b0:=decide_eq_false c4
 clear c4
 simp only [Option.some.injEq,Prod.mk.injEq] at H
 obtain ⟨rfl,rfl⟩:=H
 go_enter Try.func129,Try.ntmps129
 go_wp2_with (first | ((with_reducible refine gate_dst (N:=2) rfl ?_);refine bx 2 #[.int .i64 a0_0,.int .i64 a0_1] 23 ?_;intro gb1553 hg w16 hbox hb;have BK1553:=A_ hbox;have GW1553:=gw hg HB;have GE1553:=GW1553;replace HB:=bB HB hb;clear hb hbox hg) | ((with_reducible refine gate_dst (N:=3) rfl ?_);refine bx 3 #[.int .i64 a1_0,.int .i64 a1_1] 23 ?_;intro gb1554 hg w17 hbox hb;have BK1554:=A_ hbox;have GW1554:=gw hg HB;have GE1554:=GW1554;have NB1553_1554:=nl hg BK1553;have NB1554_1553:=ng hg BK1553;replace BK1553:=kB BK1553 hb;replace HB:=bB HB hb;clear hb hbox hg) | ((with_reducible refine gate_dst (N:=4) rfl ?_);refine bx 4 #[.int .i64 0,.int .i64 0] 23 ?_;intro gb1555 hg w18 hbox hb;have BK1555:=A_ hbox;have GW1555:=gw hg HB;have GE1555:=GW1555;have NB1553_1555:=nl hg BK1553;have NB1555_1553:=ng hg BK1553;have NB1554_1555:=nl hg BK1554;have NB1555_1554:=ng hg BK1554;replace BK1553:=kB BK1553 hb;replace BK1554:=kB BK1554 hb;replace HB:=bB HB hb;clear hb hbox hg;have hnb19:=NB1553_1554.out;have hnc19:=NB1554_1553.out;have hnb20:=NB1553_1555.out;have hnc20:=NB1555_1553.out;have hcz21_0:w18.cell? ⟨gb1553,0,none⟩ = some (.int .i64 a0_0):=cz BK1553 0;have hcz21_1:w18.cell? ⟨gb1553,1,none⟩ = some (.int .i64 a0_1):=cz BK1553 1;have hfz21_0:=blk_frozen BK1553.out 0;have hfz21_1:=blk_frozen BK1553.out 1;have hnb22:=NB1554_1555.out;have hnc22:=NB1555_1554.out;have hcz23_0:w18.cell? ⟨gb1554,0,none⟩ = some (.int .i64 a1_0):=cz BK1554 0;have hcz23_1:w18.cell? ⟨gb1554,1,none⟩ = some (.int .i64 a1_1):=cz BK1554 1;have hfz23_0:=blk_frozen BK1554.out 0;have hfz23_1:=blk_frozen BK1554.out 1) | ((with_reducible refine gate_callee (f:=85) rfl ?_);refine gL (some 7) Try.func85 #[.agg #[.int .i64 a0_0,.int .i64 a0_1],.agg #[.int .i64 a1_0,.int .i64 a1_1]] ?_;(with_reducible refine (shares_compare.calls k a0_0 a0_1 a1_0 a1_1 t1556 _ A3.out).mono ?_);rintro e w24 ⟨rfl,hb⟩;refine ⟨_,rfl,?_⟩;replace BK1553:=kB BK1553 hb;replace BK1554:=kB BK1554 hb;replace BK1555:=kB BK1555 hb;replace HB:=bB HB hb;(try clear hb);have hcz25_0:w24.cell? ⟨gb1554,0,none⟩ = some (.int .i64 a1_0):=cz BK1554 0;have hcz25_1:w24.cell? ⟨gb1554,1,none⟩ = some (.int .i64 a1_1):=cz BK1554 1;have hfz25_0:=blk_frozen BK1554.out 0;have hfz25_1:=blk_frozen BK1554.out 1;have hcz26_0:w24.cell? ⟨gb1555,0,none⟩ = some (.int .i64 0):=cz BK1555 0;have hcz26_1:w24.cell? ⟨gb1555,1,none⟩ = some (.int .i64 0):=cz BK1555 1;have hfz26_0:=blk_frozen BK1555.out 0;have hfz26_1:=blk_frozen BK1555.out 1))
 refine bodyPost_ret (results_cell_row rfl _ _ gb1555 23 #[.int .i64 a1_0,.int .i64 a1_1] (0,0) _ rfl (by (with_reducible repeat (first | refine blk_drewN ?_ _ | refine blk_drew ?_ | refine blk_alloc ?_ _));refine blk_put (cs:=#[.int .i64 a1_0,.int .i64 0]) ?_ 1 _ rfl;(with_reducible repeat (first | refine blk_drewN ?_ _ | refine blk_drew ?_ | refine blk_alloc ?_ _));refine blk_put (cs:=#[.int .i64 0,.int .i64 0]) ?_ 0 _ rfl;(with_reducible repeat (first | refine blk_drewN ?_ _ | refine blk_drew ?_ | refine blk_alloc ?_ _));exact BK1555.out) Try.underlying23 rfl (by kernel_rfl)) rfl ?_
 exact ⟨rfl,bl HB⟩
end Go.Proofs.Ytjohcjfmlhihbaa.G
namespace Go.Proofs.Ytjohcjfmlhihbaa.G
open Go Go.RowKit Go.Proofs.YtjohcjfmlhihbaaW.PrintWords Go.Proofs.YtjohcjfmlhihbaaW.PrintLast
variable {P:Program} {ops:Array Oper} {Q:Exit → Act → World → Prop}
theorem goesV_ {oi:Oper} {N:Option Tmp} {a:Act} {w:World} {K:Act → World → Prop} {f:FuncId} {fn:Func} {as_:Array Operand} {ts:Array TypeId} (hf:P.funcs[f]? = some fn) (hname:(fn.name == "runtime.NumGoroutine") = false) (hb:fn.body.isSome = true) (args cap:Array Value) (t:Tmp)
    (hw:Region.wanted oi (yielded ops a.tmps) = true) (hN:oi.dst = N) (hop:oi.op = .call { callee:=.value (.tmp t),args:=as_,argTypes:=ts }) (hv:a.eval (.tmp t) = .func (.func f) #[] cap) (hargs:as_.map a.eval = args)
    (h:Calls P f (args ++ cap) w fun e w'=>∃ v,e = .returned v ∧ K (a.put N v) w'):if Region.wanted oi (yielded ops a.tmps) = true then Oper.wp P oi a w K Q else K (a.put N undef) w:=by
  refine call_ f (args ++ cap) hw hN ?_ h
  have he:=enters_ hf hname hb (args ++ cap) w
  have hargs':as_.map (fun o=>a.eval o) = args:=hargs
  unfold execOp
  simp [hop,resolve,Deferred.ofValue,invoke,hv,hargs,hargs',he]
end Go.Proofs.Ytjohcjfmlhihbaa.G
namespace Go.Proofs.Ytjohcjfmlhihbaa.G
open Go.RowKit Go.Proofs.YtjohcjfmlhihbaaW.PrintWords Go.Proofs.YtjohcjfmlhihbaaW.PrintLast Go.Proofs.YtjohcjfmlhihbaaW.PrintMore
set_option maxHeartbeats 8000000
set_option maxRecDepth 100000
attribute [local go_sem] cond_true cond_false fld23_0 fld23_1 fld45_0 fld45_1 fld109_0 fld109_1 fld94_0 fld94_1 max2_int min2_int max_two min_two max_three min_three max_four min_four   -- for this text's walks alone
def api_Frac_1.f (k:Nat) (a0:Int) (a1:Int) (a2:Int) (l3:List (S23)):Option (Int):=if 0 ≤ a0 then (if a0 < (l3.length:Int) then (if 0 ≤ a1 then (if a1 < (l3.length:Int) then ((shares_compare.f k ((rd_T23 l3 a0).f0) ((rd_T23 l3 a0).f1) ((rd_T23 l3 a1).f0) ((rd_T23 l3 a1).f1)).bind fun t125=>(some t125)) else (none)) else (none)) else (none)) else (none)
theorem api_Frac_1.mono:∀ a0 a1 a2 a3 k,LeO (api_Frac_1.f k a0 a1 a2 a3) (api_Frac_1.f (k + 1) a0 a1 a2 a3):=by
 intro a0 a1 a2 a3 k
 unfold api_Frac_1.f
 repeat' first
   | (with_reducible exact shares_compare.mono _ _ _ _ _)
   | (with_reducible exact LeO.refl _)
   | (with_reducible exact LeO.none _)
   | (with_reducible refine LeO.ite ?_ ?_)
   | (with_reducible refine LeO.bind ?_ (fun _=>?_))
   | exact shares_compare.mono _ _ _ _ _
   | exact LeO.none _
   | refine LeO.ite ?_ ?_
   | refine LeO.bind ?_ (fun _=>?_)
theorem api_Frac_1.calls (k:Nat) (a0:Int) (a1:Int) (a2:Int) (A3:Option Addr) (c3:Nat) (l3:List (S23)) (r:Int) (w:World) (gb121 gb122:Nat) (BK0:w.heap[gb121]? = some (.cells #[.func (.func 85) #[] #[]] 123 (0,0))) (BK1:w.heap[gb122]? = some (.cells #[.slice A3 l3.length c3] 35 (0,0))) (nb0:gb121 ≠ gb122) (hr3:Kd.C k23 w A3 l3.length l3) (hc3:l3.length ≤ c3) (h:api_Frac_1.f k a0 a1 a2 l3 = some r) :
  Calls Try.prog 114 #[.int .i64 a0,.int .i64 a1,.pointer (some ⟨gb121,0,none⟩),.pointer (some ⟨gb122,0,none⟩)] w fun e w'=>e = .returned (.int .i64 r) ∧ Below w.heap.size w w':=by
 have hu23:=Try.underlying23
 have BK121:=A_ BK0
 have BK122:=A_ BK1
 have NB121_122:=A_ nb0
 have NB122_121:=A_ nb0.symm
 clear BK0 BK1 nb0
 have HR3:=A_ hr3
 have HC3:=A_ hc3
 clear hr3 hc3
 have HB:=A_ (Below.refl w.heap.size w)
 have H:(if 0 ≤ a0 then (if a0 < (l3.length:Int) then (if 0 ≤ a1 then (if a1 < (l3.length:Int) then ((shares_compare.f k ((rd_T23 l3 a0).f0) ((rd_T23 l3 a0).f1) ((rd_T23 l3 a1).f0) ((rd_T23 l3 a1).f1)).bind fun t125=>(some t125)) else (none)) else (none)) else (none)) else (none)) = some r:=h
 clear h
 by_cases c5:0 ≤ a0
 case neg =>
  rw [if_neg c5] at H
  exact absurd H (by simp)
 rw [if_pos c5] at H
 have c5b0:decide (0 ≤ a0) = true:=decide_eq_true c5
 clear c5
 by_cases c6:a0 < (l3.length:Int)
 case neg =>
  rw [if_neg c6] at H
  exact absurd H (by simp)
 rw [if_pos c6] at H
 have c6b0:decide (a0 < (l3.length:Int)) = true:=decide_eq_true c6
 clear c6
 by_cases c7:0 ≤ a1
 case neg =>
  rw [if_neg c7] at H
  exact absurd H (by simp)
 rw [if_pos c7] at H
 have c7b0:decide (0 ≤ a1) = true:=decide_eq_true c7
 clear c7
 by_cases c8:a1 < (l3.length:Int)
 case neg =>
  rw [if_neg c8] at H
  exact absurd H (by simp)
 rw [if_pos c8] at H
 have c8b0:decide (a1 < (l3.length:Int)) = true:=decide_eq_true c8
 clear c8
 replace H:=Option.bind_eq_some_iff.mp H
 obtain ⟨t125,A90,H⟩:=H
 replace H:(some t125) = some r:=H
 have A9:=A_ A90
 clear A90
 obtain rfl:=Option.some.inj H
 go_enter Try.func114,Try.ntmps114
 try go_wp2_with (first | ((with_reducible refine gate_dst (N:=541) rfl ?_);refine box_event ?hg (N:=541) ?hd (cs:=#[.slice A3 l3.length c3]) (t:=35) ?hr ?_;(case hd=>rfl);(case hg=>rfl);(case hr=>first | (go_simp;done) | (go_simp;rfl));intro gb122 hg w11 hbox hb;have BK122:=A_ hbox;have GW122:=gw hg HB;have GE122:=GW122;have NB121_122:=nl hg BK121;have NB122_121:=ng hg BK121;replace BK121:=kB BK121 hb;replace HB:=bB HB hb;clear hb hbox hg;have hnb12:=NB122_121.out;have hnc12:=NB121_122.out;have hcz13_0:w11.cell? ⟨gb122,0,none⟩ = some (.slice A3 l3.length c3):=cz BK122 0;have hfz13_0:=blk_frozen BK122.out 0))
 replace BK121:=A_ (blk_drew BK121.out)
 replace BK122:=A_ (blk_drew BK122.out)
 replace HB:=A_ (below_drew1 HB.out)
 have p123:0 ≤ (a0:Int):=of_decide_eq_true (by first | (with_reducible assumption) | assumption)
 have q123:a0 < (l3.length:Int):=of_decide_eq_true (by first | (with_reducible assumption) | assumption)
 obtain ⟨ad123,e123,hx123_0,hx123_1⟩:=at_T23 HR3.out a0 p123 q123
 have hw123_1:=hx123_1
 have hw123_0:=hx123_0
 cases e123
 replace hx123_0:=(HB.out.cell (World.block_lt_of_cell? w _ hx123_0)).trans hx123_0
 replace hx123_1:=(HB.out.cell (World.block_lt_of_cell? w _ hx123_1)).trans hx123_1
 replace p123:=eq_true p123
 replace q123:=eq_true q123
 have p124:0 ≤ (a1:Int):=of_decide_eq_true (by first | (with_reducible assumption) | assumption)
 have q124:a1 < (l3.length:Int):=of_decide_eq_true (by first | (with_reducible assumption) | assumption)
 obtain ⟨ad124,e124,hx124_0,hx124_1⟩:=at_T23 HR3.out a1 p124 q124
 have hw124_1:=hx124_1
 have hw124_0:=hx124_0
 obtain rfl:ad123 = ad124:=(by injection e124)
 replace hx124_0:=(HB.out.cell (World.block_lt_of_cell? w _ hx124_0)).trans hx124_0
 replace hx124_1:=(HB.out.cell (World.block_lt_of_cell? w _ hx124_1)).trans hx124_1
 replace p124:=eq_true p124
 replace q124:=eq_true q124
 refine start_ (n:=11) (S:=fun w'=>w'.cell? ⟨gb121,0,none⟩ = some (.func (.func 85) #[] #[]) ∧ w'.cell? ⟨gb122,0,none⟩ = some (.slice (some ad123) l3.length c3) ∧ w'.cell? (ad123.add ((a0).toNat * 2)) = some (.int .i64 ((rd_T23 l3 a0).f0)) ∧ w'.cell? ⟨(ad123.add ((a0).toNat * 2)).block,(ad123.add ((a0).toNat * 2)).off + 1,none⟩ = some (.int .i64 ((rd_T23 l3 a0).f1)) ∧ w'.cell? (ad123.add ((a1).toNat * 2)) = some (.int .i64 ((rd_T23 l3 a1).f0)) ∧ w'.cell? ⟨(ad123.add ((a1).toNat * 2)).block,(ad123.add ((a1).toNat * 2)).off + 1,none⟩ = some (.int .i64 ((rd_T23 l3 a1).f1))) (ds:=[]) (ba 11 0) (by kernel_rfl) rfl rfl ⟨cz BK121 0,cz BK122 0,((HB.out.cell (World.block_lt_of_cell? w _ hw123_0)).trans hw123_0),((HB.out.cell (World.block_lt_of_cell? w _ hw123_1)).trans hw123_1),((HB.out.cell (World.block_lt_of_cell? w _ hw124_0)).trans hw124_0),((HB.out.cell (World.block_lt_of_cell? w _ hw124_1)).trans hw124_1)⟩ (fun hHeld=>?_)
 generalize w.drew = w14 at BK121 BK122 HB hx123_0 hx123_1 hx124_0 hx124_1 hHeld ⊢
 refine pr 2 9 4 ?_
 refine pr 6 13 68 ?_
 refine tr 0 7 69 hHeld ?_
 refine tr 1 8 71 hHeld ?_
 refine pr 3 10 79 ?_
 refine tr 4 11 95 hHeld ?_
 refine tr 5 12 127 hHeld ?_
 refine pr 7 14 255 ?_
 refine tr 8 15 511 hHeld ?_
 refine os 9 16 1023 (fun K hK=>?_)
 refine goesV_ Try.func85 (by kernel_rfl) rfl #[.agg #[.int .i64 ((rd_T23 l3 a0).f0),.int .i64 ((rd_T23 l3 a0).f1)],.agg #[.int .i64 ((rd_T23 l3 a1).f0),.int .i64 ((rd_T23 l3 a1).f1)]] #[] 7 (by rfl) rfl rfl rfl (by (try simp only [List.map_toArray,List.map_cons,List.map_nil]);first | done | rfl | (simp only [List.length_drop,List.length_take];rfl)) ?_
 rw [Array.append_empty]
 with_reducible refine (shares_compare.calls k ((rd_T23 l3 a0).f0) ((rd_T23 l3 a0).f1) ((rd_T23 l3 a1).f0) ((rd_T23 l3 a1).f1) t125 _ A9.out).mono ?_
 rintro e w15 ⟨rfl,hb⟩
 refine ⟨_,rfl,?_⟩
 replace BK121:=kB BK121 hb
 replace BK122:=kB BK122 hb
 replace HB:=bB HB hb
 (try clear hb)
 refine hK.out _ _ ⟨cz BK121 0,cz BK122 0,((HB.out.cell (World.block_lt_of_cell? w _ hw123_0)).trans hw123_0),((HB.out.cell (World.block_lt_of_cell? w _ hw123_1)).trans hw123_1),((HB.out.cell (World.block_lt_of_cell? w _ hw124_0)).trans hw124_0),((HB.out.cell (World.block_lt_of_cell? w _ hw124_1)).trans hw124_1)⟩ (fun hHeld=>?_)
 clear hK K
 refine nq 16 ?_
 refine pr 10 6 2047 ?_
 refine done_ (by kernel_rfl) ?_
 try go_wp2
 go_ret
 exact ⟨by first | rfl | (simp [errW_none,errW_some] <;> rfl) | (simp [*,errW_none,errW_some] <;> rfl),by repeat (first | (with_reducible first | exact HB.out | apply below_alloc | apply pw_below_drewN | apply below_drew1 | refine below_set ?_ GE121.out | refine below_set ?_ GE122.out) | exact HB.out)⟩
end Go.Proofs.Ytjohcjfmlhihbaa.G
namespace Go.Proofs.Ytjohcjfmlhihbaa.G
open Go.RowKit Go.Proofs.YtjohcjfmlhihbaaW.PrintWords Go.Proofs.YtjohcjfmlhihbaaW.PrintLast Go.Proofs.YtjohcjfmlhihbaaW.PrintMore
set_option maxHeartbeats 8000000
set_option maxRecDepth 100000
attribute [local go_sem] cond_true cond_false fld23_0 fld23_1 fld45_0 fld45_1 fld109_0 fld109_1 fld94_0 fld94_1 max2_int min2_int max_two min_two max_three min_three max_four min_four
mutual
def slices_insertionSortCmpFunc_int.l0:Nat → List Int → Int → Int → List (S23) → Int → Option (List Int)
 | 0,_,_,_,_,_=>none
 | k + 1,x0,x1,x2,x3,x8=>if x8 < x2 then (slices_insertionSortCmpFunc_int.l1 k x0 x1 x2 x3 x8 x8) else (some x0)
def slices_insertionSortCmpFunc_int.l1:Nat → List Int → Int → Int → List (S23) → Int → Int → Option (List Int)
 | 0,_,_,_,_,_,_=>none
 | k + 1,x0,x1,x2,x3,x8,x9=>if x9 > x1 then (if 0 ≤ x9 then (if x9 < (x0.length:Int) then (if 0 ≤ (wrap64 (x9 - 1)) then (if (wrap64 (x9 - 1)) < (x0.length:Int) then ((api_Frac_1.f k (rd x0 x9) (rd x0 (wrap64 (x9 - 1))) 0 x3).bind fun t1027=>(if t1027 < 0 then (slices_insertionSortCmpFunc_int.l1 k ((x0.set (x9:Int).toNat (rd x0 (wrap64 (x9 - 1)))).set ((wrap64 (x9 - 1)):Int).toNat (rd x0 x9)) x1 x2 x3 x8 (wrap64 (x9 - 1))) else (slices_insertionSortCmpFunc_int.l0 k x0 x1 x2 x3 (wrap64 (x8 + 1))))) else (none)) else (none)) else (none)) else (none)) else (slices_insertionSortCmpFunc_int.l0 k x0 x1 x2 x3 (wrap64 (x8 + 1)))
end
def slices_insertionSortCmpFunc_int.f (k:Nat) (l0:List Int) (a1:Int) (a2:Int) (l3:List (S23)):Option (List Int):=slices_insertionSortCmpFunc_int.l0 k l0 a1 a2 l3 (wrap64 (a1 + 1))
theorem slices_insertionSortCmpFunc_int.mono_l:∀ k,(∀ y0 y1 y2 y3 y4,LeO (slices_insertionSortCmpFunc_int.l0 k y0 y1 y2 y3 y4) (slices_insertionSortCmpFunc_int.l0 (k + 1) y0 y1 y2 y3 y4)) ∧ (∀ y0 y1 y2 y3 y4 y5,LeO (slices_insertionSortCmpFunc_int.l1 k y0 y1 y2 y3 y4 y5) (slices_insertionSortCmpFunc_int.l1 (k + 1) y0 y1 y2 y3 y4 y5))
 | 0=>⟨fun _ _ _ _ _ r h=>by simp [slices_insertionSortCmpFunc_int.l0] at h,fun _ _ _ _ _ _ r h=>by simp [slices_insertionSortCmpFunc_int.l1] at h⟩
 | k + 1=>by
  obtain ⟨ih0,ih1⟩:=slices_insertionSortCmpFunc_int.mono_l k
  refine ⟨?_,?_⟩
  ·intro y0 y1 y2 y3 y4
   unfold slices_insertionSortCmpFunc_int.l0
   repeat' first
   | (with_reducible first | exact ih0 _ _ _ _ _ | exact ih1 _ _ _ _ _ _ | exact api_Frac_1.mono _ _ _ _ _ | exact LeO.refl _ | exact LeO.none _ | refine LeO.ite ?_ ?_ | refine LeO.bind ?_ (fun _=>?_))
   | exact LeO.none _ | refine LeO.ite ?_ ?_ | refine LeO.bind ?_ (fun _=>?_)
  intro y0 y1 y2 y3 y4 y5
  unfold slices_insertionSortCmpFunc_int.l1
  repeat' first
  | (with_reducible first | exact ih0 _ _ _ _ _ | exact ih1 _ _ _ _ _ _ | exact api_Frac_1.mono _ _ _ _ _ | exact LeO.refl _ | exact LeO.none _ | refine LeO.ite ?_ ?_ | refine LeO.bind ?_ (fun _=>?_))
  | exact LeO.none _ | refine LeO.ite ?_ ?_ | refine LeO.bind ?_ (fun _=>?_)
theorem slices_insertionSortCmpFunc_int.mono:∀ a0 a1 a2 a3 k,LeO (slices_insertionSortCmpFunc_int.f k a0 a1 a2 a3) (slices_insertionSortCmpFunc_int.f (k + 1) a0 a1 a2 a3):=by
 intro a0 a1 a2 a3 k
 obtain ⟨ih0,ih1⟩:=slices_insertionSortCmpFunc_int.mono_l k
 unfold slices_insertionSortCmpFunc_int.f
 repeat' first
   | (with_reducible first | exact ih0 _ _ _ _ _ | exact ih1 _ _ _ _ _ _ | exact api_Frac_1.mono _ _ _ _ _ | exact LeO.refl _ | exact LeO.none _ | refine LeO.ite ?_ ?_ | refine LeO.bind ?_ (fun _=>?_))
   | exact LeO.none _ | refine LeO.ite ?_ ?_ | refine LeO.bind ?_ (fun _=>?_)
theorem slices_insertionSortCmpFunc_int.calls (k:Nat) (P0_:Nat → Prop) (u9000_:Value) (l0:List Int) (a1:Int) (a2:Int) (A3:Option Addr) (c3:Nat) (l3:List (S23)) (r:List Int) (w0 w:World) (gbF gbL:Nat) (BK0:∀ W_,Kept w W_ (fun k_=>P0_ k_) → W_.heap[gbF]? = some (.cells #[.func (.func 85) #[] #[]] 123 (0,0))) (BK1:∀ W_,Kept w W_ (fun k_=>P0_ k_) → W_.heap[gbL]? = some (.cells #[.slice A3 l3.length c3] 35 (0,0))) (nb0:gbF ≠ gbL) (hB:Below w0.heap.size w0 w) (ho0:Kd.R (Kd.int .i64) 3 w w0.heap.size P0_ u9000_ l0) (hr3:∀ W_,Kept w W_ (fun k_=>P0_ k_) → Kd.C k23 W_ A3 l3.length l3) (hc3:l3.length ≤ c3) (h:slices_insertionSortCmpFunc_int.f k l0 a1 a2 l3 = some r) :
  Calls Try.prog 132 #[u9000_,.int .i64 a1,.int .i64 a2,.func (.func 114) #[] #[.pointer (some ⟨gbF,0,none⟩),.pointer (some ⟨gbL,0,none⟩)]] w fun e w'=>e = .returned (.tuple #[]) ∧ Kd.R (Kd.int .i64) 3 w' w0.heap.size (fun k_=>(P0_ k_ ∨ w.heap.size ≤ k_)) u9000_ r ∧ Below w0.heap.size w0 w' ∧ Kept w w' (fun k_=>P0_ k_):=by
 have HO0:=A_ (show Kd.R (Kd.int .i64) 3 w w0.heap.size (fun k_=>(P0_ k_ ∨ w.heap.size ≤ k_)) u9000_ l0 from Kd.R_mono ho0 (fun k_ hk=>(.inl hk)))
 have BKF:=A_ BK0
 have BKL:=A_ BK1
 have NBFL:=A_ nb0
 clear BK0 BK1 nb0
 have HR3:=A_ hr3
 have HC3:=A_ hc3
 clear hr3 hc3
 have HK:=A_ (Kept.refl w (fun k_=>P0_ k_))
 have HW0:=A_ hB.size
 have HB:=A_ hB
 clear hB
 have H:(slices_insertionSortCmpFunc_int.l0 k l0 a1 a2 l3 (wrap64 (a1 + 1))) = some r:=h
 clear h
 have H':=A_ H
 clear H
 go_enter Try.func132,Try.ntmps132
 go_wp2
 go_loopg [8] k (fun kq v8 w'=>∃ (x0_1:List Int) (x8_1:Int),v8 = .int .i64 x8_1 ∧ Aside0 (slices_insertionSortCmpFunc_int.l0 kq x0_1 a1 a2 l3 x8_1 = some r) ∧ Aside0 (kq ≤ k) ∧ Aside0 (Kd.R (Kd.int .i64) 3 w' w0.heap.size (fun k_=>(P0_ k_ ∨ w.heap.size ≤ k_)) u9000_ x0_1) ∧ Aside0 (Kept w w' (fun k_=>P0_ k_)) ∧ Aside0 (Below w0.heap.size w0 w'))
 case atStart=>exact ⟨(l0),(wrap64 (a1 + 1)),rfl,H',⟨Nat.le_refl _⟩,⟨by exact HO0.out⟩,⟨by repeat (first | (with_reducible first | exact HK.out | apply Kept.alloc | apply Kept.drewN | apply Kept.drew) | exact HK.out)⟩,⟨by repeat (first | (with_reducible first | exact HB.out | apply below_alloc | apply pw_below_drewN | apply below_drew1) | exact HB.out)⟩⟩
 case round =>
  clear H'
  obtain ⟨x0_1,x8_1,rfl,HA,HK1,HO_0,HK,HB⟩:=hrel
  cases gk with
  | zero=>exact absurd HA.out (by simp [slices_insertionSortCmpFunc_int.l0])
  | succ k1 =>
   have H:=HA.out
   clear HA
   simp only [slices_insertionSortCmpFunc_int.l0] at H
   by_cases c5:x8_1 < a2
   case neg =>
    rw [if_neg c5] at H
    have c5b0:=decide_eq_false c5
    clear c5
    obtain rfl:=Option.some.inj H
    go_wp2
    first | go_end0 | ((try simp only [Exit.inBlock,Exit.then]);refine bodyPost_ret (results_none rfl _ _ _) rfl ?_)
    exact ⟨rfl,by exact HO_0.out,by repeat (first | (with_reducible first | exact HB.out | apply below_alloc | apply pw_below_drewN | apply below_drew1) | exact HB.out),by repeat (first | (with_reducible first | exact HK.out | apply Kept.alloc | apply Kept.drewN | apply Kept.drew) | exact HK.out)⟩
   rw [if_pos c5] at H
   have c5b0:=decide_eq_true c5
   clear c5
   have H':=A_ H
   clear H
   go_wp2
   go_loopg [9] k1 (fun kq v9 w'=>∃ (x0_2:List Int) (x9_2:Int),v9 = .int .i64 x9_2 ∧ Aside0 (slices_insertionSortCmpFunc_int.l1 kq x0_2 a1 a2 l3 x8_1 x9_2 = some r) ∧ Aside0 (kq ≤ k1) ∧ Aside0 (Kd.R (Kd.int .i64) 3 w' w0.heap.size (fun k_=>(P0_ k_ ∨ w.heap.size ≤ k_)) u9000_ x0_2) ∧ Aside0 (Kept w w' (fun k_=>P0_ k_)) ∧ Aside0 (Below w0.heap.size w0 w'))
   case atStart=>exact ⟨(x0_1),(x8_1),rfl,H',⟨Nat.le_refl _⟩,⟨by exact HO_0.out⟩,⟨by repeat (first | (with_reducible first | exact HK.out | apply Kept.alloc | apply Kept.drewN | apply Kept.drew) | exact HK.out)⟩,⟨by repeat (first | (with_reducible first | exact HB.out | apply below_alloc | apply pw_below_drewN | apply below_drew1) | exact HB.out)⟩⟩
   case round =>
    clear H'
    obtain ⟨x0_2,x9_2,rfl,HA,HK2,HO_0,HK,HB⟩:=hrel
    cases gk with
    | zero=>exact absurd HA.out (by simp [slices_insertionSortCmpFunc_int.l1])
    | succ k2 =>
     have H:=HA.out
     clear HA
     simp only [slices_insertionSortCmpFunc_int.l1] at H
     by_cases c6:x9_2 > a1
     case neg =>
      rw [if_neg c6] at H
      have c6b0:=decide_eq_false c6
      clear c6
      have H':=A_ H
      clear H
      try go_wp2
      replace HO_0:=rD HO_0
      replace HK:=A_ (Kept.drew HK.out)
      replace HB:=bD HB
      refine start_ (n:=17) (S:=fun w'=>True) (ds:=[]) (ba 17 0) (by kernel_rfl) rfl rfl trivial (fun hHeld=>?_)
      generalize wr.drew = w27 at HO_0 HK HB hHeld ⊢
      refine pr 0 18 1 ?_
      refine pr 1 19 3 ?_
      refine pr 2 20 7 ?_
      refine pr 3 21 15 ?_
      refine pv 4 22 31 ?_
      refine pv 5 23 63 ?_
      refine pv 6 24 127 ?_
      refine pv 7 25 255 ?_
      refine pv 8 26 511 ?_
      refine pv 9 27 1023 ?_
      refine pv 10 28 2047 ?_
      refine pv 11 29 4095 ?_
      refine pv 12 30 8191 ?_
      refine pv 13 31 16383 ?_
      refine pv 14 32 32767 ?_
      refine pv 15 33 65535 ?_
      refine pr 16 34 131071 ?_
      refine done_ (by kernel_rfl) ?_
      try go_wp2
      go_roundg k2
      case measure=>have:=HK1.out;have:=HK2.out;omega
      case rel=>exact ⟨(x0_2),(wrap64 (x8_1 + 1)),rfl,H',⟨by have:=HK1.out;have:=HK2.out;omega⟩,⟨by exact HO_0.out⟩,⟨by repeat (first | (with_reducible first | exact HK.out | apply Kept.alloc | apply Kept.drewN | apply Kept.drew) | exact HK.out)⟩,⟨by repeat (first | (with_reducible first | exact HB.out | apply below_alloc | apply pw_below_drewN | apply below_drew1) | exact HB.out)⟩⟩
     rw [if_pos c6] at H
     have c6b0:=decide_eq_true c6
     clear c6
     replace H:=gd H
     obtain ⟨c7,H⟩:=H
     have c7b0:=decide_eq_true c7
     clear c7
     replace H:=gd H
     obtain ⟨c8,H⟩:=H
     have c8b0:=decide_eq_true c8
     clear c8
     obtain ⟨ji9,hji9⟩:∃ j_:Int,(wrap64 (x9_2 - 1)) = j_:=⟨_,rfl⟩
     replace H:(if 0 ≤ (ji9) then (if (ji9) < (x0_2.length:Int) then ((api_Frac_1.f k2 (rd x0_2 x9_2) (rd x0_2 (ji9)) 0 l3).bind fun t1027=>(if t1027 < 0 then (slices_insertionSortCmpFunc_int.l1 k2 ((x0_2.set (x9_2:Int).toNat (rd x0_2 (ji9))).set ((ji9):Int).toNat (rd x0_2 x9_2)) a1 a2 l3 x8_1 ji9) else (slices_insertionSortCmpFunc_int.l0 k2 x0_2 a1 a2 l3 (wrap64 (x8_1 + 1))))) else (none)) else (none)) = some r:=by first | (rw [hji9] at H;exact H) | (simp only [hji9] at H ⊢;exact H)
     have hji9w:(IntKind.i64.wrap (x9_2 - 1)) = ji9:=(i64_w _).trans hji9
     replace H:=gd H
     obtain ⟨c10,H⟩:=H
     have c10b0:=decide_eq_true c10
     clear c10
     replace H:=gd H
     obtain ⟨c11,H⟩:=H
     have c11b0:=decide_eq_true c11
     clear c11
     replace H:=Option.bind_eq_some_iff.mp H
     obtain ⟨t1027,A120,H⟩:=H
     replace H:(if t1027 < 0 then (slices_insertionSortCmpFunc_int.l1 k2 ((x0_2.set (x9_2:Int).toNat (rd x0_2 (ji9))).set ((ji9):Int).toNat (rd x0_2 x9_2)) a1 a2 l3 x8_1 ji9) else (slices_insertionSortCmpFunc_int.l0 k2 x0_2 a1 a2 l3 (wrap64 (x8_1 + 1)))) = some r:=H
     have A12:=A_ A120
     clear A120
     by_cases c13:t1027 < 0
     case neg =>
      rw [if_neg c13] at H
      have c13b0:=decide_eq_false c13
      clear c13
      have H':=A_ H
      clear H
      try go_wp2
      replace HO_0:=rD HO_0
      replace HK:=A_ (Kept.drew HK.out)
      replace HB:=bD HB
      obtain ⟨Ao25,co25,eo25⟩:=Kd.R_slice HO_0.out
      (first | subst eo25 | (injection eo25 with f1_ f2_ f3_;have f4_:=f1_.symm;have f5_:=f3_.symm;clear f1_ f2_ f3_;subst f4_;subst f5_))
      have p1025:0 ≤ (x9_2:Int):=of_decide_eq_true (by assumption)
      have q1025:x9_2 < (x0_2.length:Int):=of_decide_eq_true (by assumption)
      obtain ⟨ad1025,e1025,hx1025_0⟩:=Kd.at_int (Kd.R_reads' HO_0.out).2.2 x9_2 p1025 q1025
      cases e1025
      replace p1025:=eq_true p1025
      replace q1025:=eq_true q1025
      have p1026:0 ≤ ((ji9):Int):=of_decide_eq_true (by assumption)
      have q1026:(ji9) < (x0_2.length:Int):=of_decide_eq_true (by assumption)
      obtain ⟨ad1026,e1026,hx1026_0⟩:=Kd.at_int (Kd.R_reads' HO_0.out).2.2 (ji9) p1026 q1026
      obtain rfl:ad1025 = ad1026:=(by injection e1026)
      replace p1026:=eq_true p1026
      replace q1026:=eq_true q1026
      refine start_ (n:=17) (S:=fun w'=>w'.cell? (ad1025.add (x9_2).toNat) = some (.int .i64 (rd x0_2 x9_2)) ∧ w'.cell? (ad1025.add ((ji9)).toNat) = some (.int .i64 (rd x0_2 (ji9)))) (ds:=[]) (ba 17 0) (by kernel_rfl) rfl rfl ⟨hx1025_0,hx1026_0⟩ (fun hHeld=>?_)
      generalize wr.drew = w24 at HO_0 HK HB hx1025_0 hx1026_0 hHeld ⊢
      refine pr 0 18 1 ?_
      refine pr 1 19 3 ?_
      refine pr 2 20 7 ?_
      refine pr 3 21 15 ?_
      refine pr 4 22 31 ?_
      refine pr 5 23 63 ?_
      refine pr 6 24 127 ?_
      refine pr 7 25 255 ?_
      refine pr 9 27 767 ?_
      refine pr 10 28 1791 ?_
      refine pr 11 29 3839 ?_
      refine pr 12 30 7935 ?_
      refine tr 8 26 8191 hHeld ?_
      refine tr 13 31 16383 hHeld ?_
      refine os 14 32 32767 (fun K hK=>?_)
      refine goesV_ Try.func114 (by kernel_rfl) rfl #[.int .i64 (rd x0_2 x9_2),.int .i64 (rd x0_2 (ji9))] #[.pointer (some ⟨gbF,0,none⟩),.pointer (some ⟨gbL,0,none⟩)] 22 (by rfl) rfl rfl rfl (by (try simp only [List.map_toArray,List.map_cons,List.map_nil]);first | done | (simp only [hji9];rfl) | rfl | (simp only [List.length_drop,List.length_take];rfl)) ?_
      simp only [List.append_toArray,List.cons_append,List.nil_append]
      with_reducible refine (api_Frac_1.calls k2 (rd x0_2 x9_2) (rd x0_2 (ji9)) 0 _ _ l3 t1027 _ gbF gbL (BKF.out _ HK.out) (BKL.out _ HK.out) NBFL.out ?side1 ?side2 A12.out).mono ?_
      (case side1=>exact Kd.C_kept_now HR3.out HK.out)
      (case side2=>exact HC3.out)
      rintro e w26 ⟨rfl,hb⟩
      have HS0_:=(hb.cell (World.block_lt_of_cell? _ _ (hHeld.1))).trans (hHeld.1)
      have HS1_:=(hb.cell (World.block_lt_of_cell? _ _ (hHeld.2))).trans (hHeld.2)
      refine ⟨_,rfl,?_⟩
      replace HO_0:=rB HO_0 hb
      replace HK:=A_ (Kept.below (S:=(fun k_=>P0_ k_)) HK.out hb)
      replace HB:=bB HB hb
      (try clear hb)
      refine hz hK (fun hHeld=>?_)
      clear hK K
      refine nq 32 ?_
      refine pr 15 33 65535 ?_
      refine pr 16 34 131071 ?_
      refine done_ (by kernel_rfl) ?_
      try go_wp2
      go_roundg k2
      case measure=>have:=HK1.out;have:=HK2.out;omega
      case rel=>exact ⟨(x0_2),(wrap64 (x8_1 + 1)),rfl,H',⟨by have:=HK1.out;have:=HK2.out;omega⟩,⟨by exact HO_0.out⟩,⟨by repeat (first | (with_reducible first | exact HK.out | apply Kept.alloc | apply Kept.drewN | apply Kept.drew) | exact HK.out)⟩,⟨by repeat (first | (with_reducible first | exact HB.out | apply below_alloc | apply pw_below_drewN | apply below_drew1) | exact HB.out)⟩⟩
     rw [if_pos c13] at H
     have c13b0:=decide_eq_true c13
     clear c13
     obtain ⟨y1030,hy1030⟩:∃ y_:List Int,y_ = (x0_2.set (x9_2:Int).toNat (rd x0_2 (ji9))):=⟨_,rfl⟩
     replace H:(slices_insertionSortCmpFunc_int.l1 k2 (y1030.set ((ji9):Int).toNat (rd x0_2 x9_2)) a1 a2 l3 x8_1 ji9) = some r:=by rw [hy1030];exact H
     have Ny1030:=A_ hy1030
     clear hy1030
     obtain ⟨y1031,hy1031⟩:∃ y_:List Int,y_ = (y1030.set ((ji9):Int).toNat (rd x0_2 x9_2)):=⟨_,rfl⟩
     replace H:(slices_insertionSortCmpFunc_int.l1 k2 y1031 a1 a2 l3 x8_1 ji9) = some r:=by rw [hy1031];exact H
     have Ny1031:=A_ hy1031
     clear hy1031
     have H':=A_ H
     clear H
     try go_wp2
     replace HO_0:=rD HO_0
     replace HK:=A_ (Kept.drew HK.out)
     replace HB:=bD HB
     obtain ⟨Ao17,co17,eo17⟩:=Kd.R_slice HO_0.out
     (first | subst eo17 | (injection eo17 with f1_ f2_ f3_;have f4_:=f1_.symm;have f5_:=f3_.symm;clear f1_ f2_ f3_;subst f4_;subst f5_))
     have p1025:0 ≤ (x9_2:Int):=of_decide_eq_true (by assumption)
     have q1025:x9_2 < (x0_2.length:Int):=of_decide_eq_true (by assumption)
     obtain ⟨ad1025,e1025,hx1025_0⟩:=Kd.at_int (Kd.R_reads' HO_0.out).2.2 x9_2 p1025 q1025
     cases e1025
     replace p1025:=eq_true p1025
     replace q1025:=eq_true q1025
     have p1026:0 ≤ ((ji9):Int):=of_decide_eq_true (by assumption)
     have q1026:(ji9) < (x0_2.length:Int):=of_decide_eq_true (by assumption)
     obtain ⟨ad1026,e1026,hx1026_0⟩:=Kd.at_int (Kd.R_reads' HO_0.out).2.2 (ji9) p1026 q1026
     obtain rfl:ad1025 = ad1026:=(by injection e1026)
     replace p1026:=eq_true p1026
     replace q1026:=eq_true q1026
     refine start_ (n:=17) (S:=fun w'=>w'.cell? (ad1025.add (x9_2).toNat) = some (.int .i64 (rd x0_2 x9_2)) ∧ w'.cell? (ad1025.add ((ji9)).toNat) = some (.int .i64 (rd x0_2 (ji9)))) (ds:=[]) (ba 17 0) (by kernel_rfl) rfl rfl ⟨hx1025_0,hx1026_0⟩ (fun hHeld=>?_)
     generalize wr.drew = w16 at HO_0 HK HB hx1025_0 hx1026_0 hHeld ⊢
     refine pr 0 18 1 ?_
     refine pr 1 19 3 ?_
     refine pr 2 20 7 ?_
     refine pr 3 21 15 ?_
     refine pr 4 22 31 ?_
     refine pr 5 23 63 ?_
     refine pr 6 24 127 ?_
     refine pr 7 25 255 ?_
     refine pr 9 27 767 ?_
     refine pr 10 28 1791 ?_
     refine pr 11 29 3839 ?_
     refine pr 12 30 7935 ?_
     refine tr 8 26 8191 hHeld ?_
     refine tr 13 31 16383 hHeld ?_
     refine os 14 32 32767 (fun K hK=>?_)
     refine goesV_ Try.func114 (by kernel_rfl) rfl #[.int .i64 (rd x0_2 x9_2),.int .i64 (rd x0_2 (ji9))] #[.pointer (some ⟨gbF,0,none⟩),.pointer (some ⟨gbL,0,none⟩)] 22 (by rfl) rfl rfl rfl (by (try simp only [List.map_toArray,List.map_cons,List.map_nil]);first | done | (simp only [hji9];rfl) | rfl | (simp only [List.length_drop,List.length_take];rfl)) ?_
     simp only [List.append_toArray,List.cons_append,List.nil_append]
     with_reducible refine (api_Frac_1.calls k2 (rd x0_2 x9_2) (rd x0_2 (ji9)) 0 _ _ l3 t1027 _ gbF gbL (BKF.out _ HK.out) (BKL.out _ HK.out) NBFL.out ?side1 ?side2 A12.out).mono ?_
     (case side1=>exact Kd.C_kept_now HR3.out HK.out)
     (case side2=>exact HC3.out)
     rintro e w18 ⟨rfl,hb⟩
     have HS0_:=(hb.cell (World.block_lt_of_cell? _ _ (hHeld.1))).trans (hHeld.1)
     have HS1_:=(hb.cell (World.block_lt_of_cell? _ _ (hHeld.2))).trans (hHeld.2)
     refine ⟨_,rfl,?_⟩
     replace HO_0:=rB HO_0 hb
     replace HK:=A_ (Kept.below (S:=(fun k_=>P0_ k_)) HK.out hb)
     replace HB:=bB HB hb
     (try clear hb)
     refine hz hK (fun hHeld=>?_)
     clear hK K
     refine nq 32 ?_
     refine pr 15 33 65535 ?_
     refine pr 16 34 131071 ?_
     refine done_ (by kernel_rfl) ?_
     try go_wp2
     replace HO_0:=rD HO_0
     replace HK:=A_ (Kept.drew HK.out)
     replace HB:=bD HB
     have p1028:0 ≤ ((ji9):Int):=of_decide_eq_true (by assumption)
     have q1028:(ji9) < (x0_2.length:Int):=of_decide_eq_true (by assumption)
     obtain ⟨ad1028,e1028,hx1028_0⟩:=Kd.at_int (Kd.R_reads' HO_0.out).2.2 (ji9) p1028 q1028
     obtain rfl:ad1025 = ad1028:=(by injection e1028)
     replace p1028:=eq_true p1028
     replace q1028:=eq_true q1028
     have p1029:0 ≤ (x9_2:Int):=of_decide_eq_true (by assumption)
     have q1029:x9_2 < (x0_2.length:Int):=of_decide_eq_true (by assumption)
     obtain ⟨ad1029,e1029,hx1029_0⟩:=Kd.at_int (Kd.R_reads' HO_0.out).2.2 x9_2 p1029 q1029
     obtain rfl:ad1025 = ad1029:=(by injection e1029)
     replace p1029:=eq_true p1029
     replace q1029:=eq_true q1029
     have p14:0 ≤ (x9_2:Int):=of_decide_eq_true (by assumption)
     have q14:(x9_2:Int) < ((x0_2.length:Int):Int):=of_decide_eq_true (by assumption)
     obtain ⟨go14,co14,eo14,gb14,gl14,cl14,HG14⟩:=Kd.R_form HO_0.out (by omega)
     (first | cases eo14 | (injection eo14 with ea_ en_ ec_;(first | subst ea_ | (injection ea_ with ea_;subst ea_));subst ec_;clear en_))
     have GB14:=A_ gb14
     have GG14:=A_ HG14
     clear gb14 gl14 HG14
     have HMgo14:=A_ (show (P0_ go14 ∨ w.heap.size ≤ go14) from (HO_0.out.1 _ rfl))
     (first | simp only [add_plain] at hx1025_0 | skip)
     (first | simp only [add_plain] at hx1026_0 | skip)
     (first | simp only [add_plain] at hx1028_0 | skip)
     (first | simp only [add_plain] at hx1029_0 | skip)
     obtain ⟨hx14_0,hf14_0⟩:=Kd.R_celln 0 HO_0.out (x9_2:Int) p14 q14
     replace p14:=eq_true p14
     replace q14:=eq_true q14
     have HP20:=Kd.R_putn HO_0.out (x9_2:Int) (rd x0_2 (ji9))
     rw [← Ny1030.out] at HP20
     have HQ20:=A_ HP20
     clear HP20
     refine start_ (n:=18) (S:=fun w'=>w'.cell? ⟨go14,((ji9)).toNat,none⟩ = some (.int .i64 (rd x0_2 (ji9))) ∧ w'.cell? ⟨go14,(x9_2).toNat,none⟩ = some (.int .i64 (rd x0_2 x9_2))) (ds:=[15,17]) (ba 18 0) (by kernel_rfl) rfl rfl ⟨hx1028_0,hx1029_0⟩ (fun hHeld=>?_)
     generalize w18.drew = w19 at HO_0 HK HB GG14 HQ20 hf14_0 hx1025_0 hx1026_0 hx1028_0 hx1029_0 hx14_0 hHeld ⊢
     refine pr 2 39 4 ?_
     refine pr 3 40 12 ?_
     refine pr 4 41 28 ?_
     refine pr 0 37 29 ?_
     refine pr 1 38 31 ?_
     refine pr 5 42 63 ?_
     refine pr 6 43 127 ?_
     refine pr 7 44 255 ?_
     refine pr 8 45 511 ?_
     refine pr 10 47 1535 ?_
     refine pr 11 48 3583 ?_
     refine pr 12 49 7679 ?_
     refine tr 9 46 8191 hHeld ?_
     refine tr 13 50 16383 hHeld ?_
     refine pr 14 51 32767 ?_
     refine last_ (i:=15) (N:=none) (ba 18 65535) rfl rfl (by kernel_rfl) (by decide) (fun K hK=>?_)
     refine skip_ (w1:=?_) (by rfl) rfl ?_ ?_
     rotate_left
     ·go_simp
      rfl
     refine hK.out _ _ ?_
     clear hK K
     have n0_:Aside0 (Kd.R (Kd.int .i64) 3 (w19.setCell ⟨go14,(x9_2:Int).toNat,none⟩ (.int .i64 (rd x0_2 (ji9)))) w0.heap.size (fun k_=>(P0_ k_ ∨ w.heap.size ≤ k_)) (.slice (some ⟨go14,0,none⟩) x0_2.length co17) y1030):=⟨by exact HQ20.out⟩
     have n1_:Aside0 (Kept w (w19.setCell ⟨go14,(x9_2:Int).toNat,none⟩ (.int .i64 (rd x0_2 (ji9)))) (fun k_=>P0_ k_)):=⟨by repeat (first | (with_reducible first | exact HK.out | apply Kept.alloc | apply Kept.drewN | apply Kept.drew | refine Kept.setCell ?_ HMgo14.out _) | exact HK.out)⟩
     have n2_:Aside0 (Below w0.heap.size w0 (w19.setCell ⟨go14,(x9_2:Int).toNat,none⟩ (.int .i64 (rd x0_2 (ji9))))):=⟨by repeat (first | (with_reducible first | exact HB.out | apply below_alloc | apply pw_below_drewN | apply below_drew1 | refine below_set ?_ GB14.out) | exact HB.out)⟩
     generalize (w19.setCell ⟨go14,(x9_2:Int).toNat,none⟩ (.int .i64 (rd x0_2 (ji9)))) = w21 at n0_ n1_ n2_ ⊢
     have HO_0:=n0_
     have HK:=n1_
     have HB:=n2_
     clear n0_ n1_ n2_
     have p15:0 ≤ ((ji9):Int):=of_decide_eq_true (by assumption)
     have q15:((ji9):Int) < ((x0_2.length:Int):Int):=of_decide_eq_true (by assumption)
     obtain ⟨hx15_0,hf15_0⟩:=Kd.R_celln 0 HO_0.out ((ji9):Int) p15 q15
     replace p15:=eq_true p15
     replace q15:=eq_true q15
     have HP23:=Kd.R_putn HO_0.out ((ji9):Int) (rd x0_2 x9_2)
     rw [← Ny1031.out] at HP23
     have HQ23:=A_ HP23
     clear HP23
     refine pr 16 52 131071 ?_
     refine last_ (i:=17) (N:=none) (ba 18 262143) rfl rfl (by kernel_rfl) (by decide) (fun K hK=>?_)
     refine skip_ (w1:=?_) (by rfl) rfl ?_ ?_
     rotate_left
     ·go_simp
      rfl
     refine hK.out _ _ ?_
     clear hK K
     refine done_ (by kernel_rfl) ?_
     try go_wp2
     go_roundg k2
     case measure=>have:=HK1.out;have:=HK2.out;omega
     case rel=>exact ⟨(y1031),(ji9),(by first | rfl | (simp;done) | (simp only [← hji9] <;> (first | rfl | simp)) | (simp [*];done)),H',⟨by have:=HK1.out;have:=HK2.out;omega⟩,⟨by exact HQ23.out⟩,⟨by repeat (first | (with_reducible first | exact HK.out | apply Kept.alloc | apply Kept.drewN | apply Kept.drew | refine Kept.setCell ?_ HMgo14.out _) | exact HK.out)⟩,⟨by repeat (first | (with_reducible first | exact HB.out | apply below_alloc | apply pw_below_drewN | apply below_drew1 | refine below_set ?_ GB14.out) | exact HB.out)⟩⟩
end Go.Proofs.Ytjohcjfmlhihbaa.G
namespace Go.Proofs.Ytjohcjfmlhihbaa.G
open Go.RowKit Go.Proofs.YtjohcjfmlhihbaaW.PrintWords Go.Proofs.YtjohcjfmlhihbaaW.PrintLast Go.Proofs.YtjohcjfmlhihbaaW.PrintMore
set_option maxHeartbeats 8000000
set_option maxRecDepth 100000
attribute [local go_sem] cond_true cond_false fld23_0 fld23_1 fld45_0 fld45_1 fld109_0 fld109_1 fld94_0 fld94_1 max2_int min2_int max_two min_two max_three min_three max_four min_four   -- for this text's walks alone
mutual
def slices_stableCmpFunc_int.l0:Nat → List Int → Int → List (S23) → Int → Option (List Int)
 | 0,_,_,_,_=>none
 | k + 1,x0,x1,x2,x7=>(slices_insertionSortCmpFunc_int.f k x0 x7 x1 x2).bind fun t1032=>(slices_stableCmpFunc_int.l1 k t1032)
def slices_stableCmpFunc_int.l1:Nat → List Int → Option (List Int)
 | 0,_=>none
 | k + 1,x0=>some x0
end
def slices_stableCmpFunc_int.f (k:Nat) (l0:List Int) (a1:Int) (l2:List (S23)):Option (List Int):=if a1 < 20 then slices_stableCmpFunc_int.l0 k l0 a1 l2 0 else none
theorem slices_stableCmpFunc_int.mono_l:∀ k,(∀ y0 y1 y2 y3,LeO (slices_stableCmpFunc_int.l0 k y0 y1 y2 y3) (slices_stableCmpFunc_int.l0 (k + 1) y0 y1 y2 y3)) ∧ (∀ y0,LeO (slices_stableCmpFunc_int.l1 k y0) (slices_stableCmpFunc_int.l1 (k + 1) y0))
 | 0=>⟨fun _ _ _ _ r h=>by simp [slices_stableCmpFunc_int.l0] at h,fun _ r h=>by simp [slices_stableCmpFunc_int.l1] at h⟩
 | k + 1=>by
  obtain ⟨ih0,ih1⟩:=slices_stableCmpFunc_int.mono_l k
  refine ⟨?_,?_⟩
  ·intro y0 y1 y2 y3
   unfold slices_stableCmpFunc_int.l0
   repeat' first
   | (with_reducible exact ih0 _ _ _ _)
   | (with_reducible exact ih1 _)
   | (with_reducible exact slices_insertionSortCmpFunc_int.mono _ _ _ _ _)
   | (with_reducible exact LeO.refl _)
   | (with_reducible exact LeO.none _)
   | (with_reducible refine LeO.ite ?_ ?_)
   | (with_reducible refine LeO.bind ?_ (fun _=>?_))
   | exact ih0 _ _ _ _
   | exact ih1 _
   | exact slices_insertionSortCmpFunc_int.mono _ _ _ _ _
   | exact LeO.none _
   | refine LeO.ite ?_ ?_
   | refine LeO.bind ?_ (fun _=>?_)
  intro y0
  unfold slices_stableCmpFunc_int.l1
  repeat' first
  | (with_reducible exact ih0 _ _ _ _)
  | (with_reducible exact ih1 _)
  | (with_reducible exact slices_insertionSortCmpFunc_int.mono _ _ _ _ _)
  | (with_reducible exact LeO.refl _)
  | (with_reducible exact LeO.none _)
  | (with_reducible refine LeO.ite ?_ ?_)
  | (with_reducible refine LeO.bind ?_ (fun _=>?_))
  | exact ih0 _ _ _ _
  | exact ih1 _
  | exact slices_insertionSortCmpFunc_int.mono _ _ _ _ _
  | exact LeO.none _
  | refine LeO.ite ?_ ?_
  | refine LeO.bind ?_ (fun _=>?_)
theorem slices_stableCmpFunc_int.mono:∀ a0 a1 a2 k,LeO (slices_stableCmpFunc_int.f k a0 a1 a2) (slices_stableCmpFunc_int.f (k + 1) a0 a1 a2):=by
 intro a0 a1 a2 k
 obtain ⟨ih0,ih1⟩:=slices_stableCmpFunc_int.mono_l k
 unfold slices_stableCmpFunc_int.f
 repeat' first
   | (with_reducible exact ih0 _ _ _ _)
   | (with_reducible exact ih1 _)
   | (with_reducible exact slices_insertionSortCmpFunc_int.mono _ _ _ _ _)
   | (with_reducible exact LeO.refl _)
   | (with_reducible exact LeO.none _)
   | (with_reducible refine LeO.ite ?_ ?_)
   | (with_reducible refine LeO.bind ?_ (fun _=>?_))
   | exact ih0 _ _ _ _
   | exact ih1 _
   | exact slices_insertionSortCmpFunc_int.mono _ _ _ _ _
   | exact LeO.none _
   | refine LeO.ite ?_ ?_
   | refine LeO.bind ?_ (fun _=>?_)
theorem slices_stableCmpFunc_int.calls (k:Nat) (P0_:Nat → Prop) (u9000_:Value) (l0:List Int) (a1:Int) (A2:Option Addr) (c2:Nat) (l2:List (S23)) (r:List Int) (w0 w:World) (gbF gbL:Nat) (BK0:∀ W_,Kept w W_ (fun k_=>P0_ k_) → W_.heap[gbF]? = some (.cells #[.func (.func 85) #[] #[]] 123 (0,0))) (BK1:∀ W_,Kept w W_ (fun k_=>P0_ k_) → W_.heap[gbL]? = some (.cells #[.slice A2 l2.length c2] 35 (0,0))) (nb0:gbF ≠ gbL) (hB:Below w0.heap.size w0 w) (ho0:Kd.R (Kd.int .i64) 3 w w0.heap.size P0_ u9000_ l0) (hr2:∀ W_,Kept w W_ (fun k_=>P0_ k_) → Kd.C k23 W_ A2 l2.length l2) (hc2:l2.length ≤ c2) (h:slices_stableCmpFunc_int.f k l0 a1 l2 = some r) :
  Calls Try.prog 127 #[u9000_,.int .i64 a1,.func (.func 114) #[] #[.pointer (some ⟨gbF,0,none⟩),.pointer (some ⟨gbL,0,none⟩)]] w fun e w'=>e = .returned (.tuple #[]) ∧ Kd.R (Kd.int .i64) 3 w' w0.heap.size (fun k_=>(P0_ k_ ∨ w.heap.size ≤ k_)) u9000_ r ∧ Below w0.heap.size w0 w' ∧ Kept w w' (fun k_=>P0_ k_):=by
 have HO0:=Aside0.mk (show Kd.R (Kd.int .i64) 3 w w0.heap.size (fun k_=>(P0_ k_ ∨ w.heap.size ≤ k_)) u9000_ l0 from Kd.R_mono ho0 (fun k_ hk=>(.inl hk)))
 have BKF:=Aside0.mk BK0
 have BKL:=Aside0.mk BK1
 have NBFL:=Aside0.mk nb0
 clear BK0 BK1 nb0
 have HR2:=Aside0.mk hr2
 have HC2:=Aside0.mk hc2
 clear hr2 hc2
 have HK:=Aside0.mk (Kept.refl w (fun k_=>P0_ k_))
 have HW0:=Aside0.mk hB.size
 have HB:=Aside0.mk hB
 clear hB
 unfold slices_stableCmpFunc_int.f at h
 by_cases hlt20:a1 < 20
 case neg=>rw [if_neg hlt20] at h;cases h
 rw [if_pos hlt20] at h
 have d20a:decide (20 ≤ a1) = false:=decide_eq_false (by omega)
 have d20b:decide (20 < a1) = false:=decide_eq_false (by omega)
 clear hlt20
 have H:(slices_stableCmpFunc_int.l0 k l0 a1 l2 0) = some r:=h
 clear h
 have H':=Aside0.mk H
 clear H
 go_enter Try.func127,Try.ntmps127
 go_wp2
 go_loopg [7,8] k (fun kq v7 v8 w'=>∃ (x0_1:List Int) (x7_1:Int),v7 = .int .i64 x7_1 ∧ v8 = .int .i64 20 ∧ Aside0 (slices_stableCmpFunc_int.l0 kq x0_1 a1 l2 x7_1 = some r) ∧ Aside0 (kq ≤ k) ∧ Aside0 (Kd.R (Kd.int .i64) 3 w' w0.heap.size (fun k_=>(P0_ k_ ∨ w.heap.size ≤ k_)) u9000_ x0_1) ∧ Aside0 (Kept w w' (fun k_=>P0_ k_)) ∧ Aside0 (Below w0.heap.size w0 w'))
 case atStart=>exact ⟨(l0),(0),(by first | rfl | (simp;done) | (simp [*];done)),rfl,H',⟨Nat.le_refl _⟩,⟨by (with_reducible repeat (first | apply Kd.R_alloc | apply Kd.R_drewN | apply Kd.R_drew));exact HO0.out⟩,⟨by repeat (first | (with_reducible first | exact HK.out | apply Kept.alloc | apply Kept.drewN | apply Kept.drew) | exact HK.out)⟩,⟨by repeat (first | (with_reducible first | exact HB.out | apply below_alloc | apply pw_below_drewN | apply below_drew1) | exact HB.out)⟩⟩
 case round =>
  clear H'
  try clear c1
  try clear c2
  try clear p2
  obtain ⟨x0_1,x7_1,rfl,rfl,HA,HK1,HO_0,HK,HB⟩:=hrel
  cases gk with
  | zero=>exact absurd HA.out (by simp [slices_stableCmpFunc_int.l0])
  | succ k1 =>
   have H:=HA.out
   clear HA
   simp only [slices_stableCmpFunc_int.l0] at H
   replace H:=Option.bind_eq_some_iff.mp H
   obtain ⟨t1032,A40,H⟩:=H
   replace H:(slices_stableCmpFunc_int.l1 k1 t1032) = some r:=H
   have A4:=Aside0.mk A40
   clear A40
   have H':=Aside0.mk H
   clear H
   obtain ⟨Ao5,co5,eo5⟩:=Kd.R_slice HO_0.out
   subst eo5
   go_wp2_with fail
   refine (slices_insertionSortCmpFunc_int.calls k1 (fun k_=>some k_ = (.slice Ao5 x0_1.length co5:Value).ownBlock) (.slice Ao5 x0_1.length co5) x0_1 x7_1 a1 _ _ l2 t1032 w0 _ gbF gbL (fun W_ hk_=>BKF.out W_ (Kept.then_ (S:=(fun k_=>P0_ k_)) (by repeat (first | (with_reducible first | exact HK.out | apply Kept.alloc | apply Kept.drewN | apply Kept.drew) | exact HK.out)) hk_ (fun k_ hs_=>(fun e_=>(HO_0.out.1 k_ e_.symm)) hs_))) (fun W_ hk_=>BKL.out W_ (Kept.then_ (S:=(fun k_=>P0_ k_)) (by repeat (first | (with_reducible first | exact HK.out | apply Kept.alloc | apply Kept.drewN | apply Kept.drew) | exact HK.out)) hk_ (fun k_ hs_=>(fun e_=>(HO_0.out.1 k_ e_.symm)) hs_))) NBFL.out ?side1 ?side2 ?side3 ?side4 A4.out).mono ?_
   case side1=>repeat (first | (with_reducible first | exact HB.out | apply below_alloc | apply pw_below_drewN | apply below_drew1) | exact HB.out)
   case side2=>exact Kd.R_tight rfl HO_0.out
   case side3=>exact Kd.C_kept_call HR2.out (by repeat (first | (with_reducible first | exact HK.out | apply Kept.alloc | apply Kept.drewN | apply Kept.drew) | exact HK.out)) (fun k_ hs_=>(fun e_=>(HO_0.out.1 k_ e_.symm)) hs_)
   case side4=>exact HC2.out
   rintro e w6 ⟨rfl,hy0,hb,hkp⟩
   have n0_:=Aside0.mk (Kd.R_reok rfl hy0 (fun k_ e_=>HO_0.out.1 k_ e_))
   have n1_:=Aside0.mk (Kept.then_ (S:=(fun k_=>P0_ k_)) (by repeat (first | (with_reducible first | exact HK.out | apply Kept.alloc | apply Kept.drewN | apply Kept.drew) | exact HK.out)) hkp (fun k_ hs_=>(fun e_=>(HO_0.out.1 k_ e_.symm)) hs_))
   have n2_:=Aside0.mk (hb)
   clear HO_0
   clear HK
   clear HB
   have HO_0:=n0_
   have HK:=n1_
   have HB:=n2_
   clear n0_ n1_ n2_
   (try clear hb)
   (try clear hkp)
   (try clear hy0)
   go_wp2_with fail
   go_loopg [6] k1 (fun kq v6 w'=>v6 = .int .i64 20 ∧ Aside0 (slices_stableCmpFunc_int.l1 kq t1032 = some r) ∧ Aside0 (kq ≤ k1) ∧ Aside0 (Kd.R (Kd.int .i64) 3 w' w0.heap.size (fun k_=>(P0_ k_ ∨ w.heap.size ≤ k_)) (.slice Ao5 x0_1.length co5) t1032) ∧ Aside0 (Kept w w' (fun k_=>P0_ k_)) ∧ Aside0 (Below w0.heap.size w0 w'))
   case atStart=>exact ⟨rfl,H',⟨Nat.le_refl _⟩,⟨by (with_reducible repeat (first | apply Kd.R_alloc | apply Kd.R_drewN | apply Kd.R_drew));exact HO_0.out⟩,⟨by repeat (first | (with_reducible first | exact HK.out | apply Kept.alloc | apply Kept.drewN | apply Kept.drew) | exact HK.out)⟩,⟨by repeat (first | (with_reducible first | exact HB.out | apply below_alloc | apply pw_below_drewN | apply below_drew1) | exact HB.out)⟩⟩
   case round =>
    clear H'
    try clear c1
    try clear c2
    try clear p2
    try clear p2
    obtain ⟨rfl,HA,HK2,HO_0,HK,HB⟩:=hrel
    have hl0_2:=(Kd.R_reads' HO_0.out).1
    rw [hl0_2] at HO_0
    (try simp only [hl0_2])
    cases gk with
    | zero=>exact absurd HA.out (by simp [slices_stableCmpFunc_int.l1])
    | succ k2 =>
     have H:=HA.out
     clear HA
     simp only [slices_stableCmpFunc_int.l1] at H
     obtain rfl:=Option.some.inj H
     go_wp2
     first | go_end0 | ((try simp only [Exit.inBlock,Exit.then]);refine bodyPost_ret (results_none rfl _ _ _) rfl ?_)
     exact ⟨by first | rfl | (simp [errW_none,errW_some] <;> rfl) | (simp [*,errW_none,errW_some] <;> rfl),(by first | exact (by (with_reducible repeat (first | apply Kd.R_alloc | apply Kd.R_drewN | apply Kd.R_drew));exact HO_0.out) | (simp only [hl0_2];exact (by (with_reducible repeat (first | apply Kd.R_alloc | apply Kd.R_drewN | apply Kd.R_drew));exact HO_0.out))),by repeat (first | (with_reducible first | exact HB.out | apply below_alloc | apply pw_below_drewN | apply below_drew1) | exact HB.out),by repeat (first | (with_reducible first | exact HK.out | apply Kept.alloc | apply Kept.drewN | apply Kept.drew) | exact HK.out)⟩
def slices_SortStableFunc_int_int.f (k:Nat) (l0:List Int) (l1:List (S23)):Option (List Int):=(slices_stableCmpFunc_int.f k l0 (l0.length:Int) l1).bind fun t1033=>(some t1033)
theorem slices_SortStableFunc_int_int.mono:∀ a0 a1 k,LeO (slices_SortStableFunc_int_int.f k a0 a1) (slices_SortStableFunc_int_int.f (k + 1) a0 a1):=by
 intro a0 a1 k
 unfold slices_SortStableFunc_int_int.f
 repeat' first
   | (with_reducible exact slices_stableCmpFunc_int.mono _ _ _ _)
   | (with_reducible exact LeO.refl _)
   | (with_reducible exact LeO.none _)
   | (with_reducible refine LeO.ite ?_ ?_)
   | (with_reducible refine LeO.bind ?_ (fun _=>?_))
   | exact slices_stableCmpFunc_int.mono _ _ _ _
   | exact LeO.none _
   | refine LeO.ite ?_ ?_
   | refine LeO.bind ?_ (fun _=>?_)
theorem slices_SortStableFunc_int_int.calls (k:Nat) (P0_:Nat → Prop) (u9000_:Value) (l0:List Int) (A1:Option Addr) (c1:Nat) (l1:List (S23)) (r:List Int) (w0 w:World) (gbF gbL:Nat) (BK0:∀ W_,Kept w W_ (fun k_=>P0_ k_) → W_.heap[gbF]? = some (.cells #[.func (.func 85) #[] #[]] 123 (0,0))) (BK1:∀ W_,Kept w W_ (fun k_=>P0_ k_) → W_.heap[gbL]? = some (.cells #[.slice A1 l1.length c1] 35 (0,0))) (nb0:gbF ≠ gbL) (hB:Below w0.heap.size w0 w) (ho0:Kd.R (Kd.int .i64) 3 w w0.heap.size P0_ u9000_ l0) (hr1:∀ W_,Kept w W_ (fun k_=>P0_ k_) → Kd.C k23 W_ A1 l1.length l1) (hc1:l1.length ≤ c1) (h:slices_SortStableFunc_int_int.f k l0 l1 = some r) :
  Calls Try.prog 113 #[u9000_,.func (.func 114) #[] #[.pointer (some ⟨gbF,0,none⟩),.pointer (some ⟨gbL,0,none⟩)]] w fun e w'=>e = .returned (.tuple #[]) ∧ Kd.R (Kd.int .i64) 3 w' w0.heap.size (fun k_=>(P0_ k_ ∨ w.heap.size ≤ k_)) u9000_ r ∧ Below w0.heap.size w0 w' ∧ Kept w w' (fun k_=>P0_ k_):=by
 have HO0:=Aside0.mk (show Kd.R (Kd.int .i64) 3 w w0.heap.size (fun k_=>(P0_ k_ ∨ w.heap.size ≤ k_)) u9000_ l0 from Kd.R_mono ho0 (fun k_ hk=>(.inl hk)))
 have BKF:=Aside0.mk BK0
 have BKL:=Aside0.mk BK1
 have NBFL:=Aside0.mk nb0
 clear BK0 BK1 nb0
 have HR1:=Aside0.mk hr1
 have HC1:=Aside0.mk hc1
 clear hr1 hc1
 have HK:=Aside0.mk (Kept.refl w (fun k_=>P0_ k_))
 have HW0:=Aside0.mk hB.size
 have HB:=Aside0.mk hB
 clear hB
 have H:((slices_stableCmpFunc_int.f k l0 (l0.length:Int) l1).bind fun t1033=>(some t1033)) = some r:=h
 clear h
 replace H:=Option.bind_eq_some_iff.mp H
 obtain ⟨t1033,A30,H⟩:=H
 replace H:(some t1033) = some r:=H
 have A3:=Aside0.mk A30
 clear A30
 obtain rfl:=Option.some.inj H
 obtain ⟨Ao4,co4,eo4⟩:=Kd.R_slice HO0.out
 subst eo4
 go_enter Try.func113,Try.ntmps113
 go_wp2_with fail
 refine (slices_stableCmpFunc_int.calls k (fun k_=>some k_ = (.slice Ao4 l0.length co4:Value).ownBlock) (.slice Ao4 l0.length co4) l0 (l0.length:Int) _ _ l1 t1033 w0 _ gbF gbL (fun W_ hk_=>BKF.out W_ (Kept.then_ (S:=(fun k_=>P0_ k_)) (by repeat (first | (with_reducible first | exact HK.out | apply Kept.alloc | apply Kept.drewN | apply Kept.drew) | exact HK.out)) hk_ (fun k_ hs_=>(fun e_=>(HO0.out.1 k_ e_.symm)) hs_))) (fun W_ hk_=>BKL.out W_ (Kept.then_ (S:=(fun k_=>P0_ k_)) (by repeat (first | (with_reducible first | exact HK.out | apply Kept.alloc | apply Kept.drewN | apply Kept.drew) | exact HK.out)) hk_ (fun k_ hs_=>(fun e_=>(HO0.out.1 k_ e_.symm)) hs_))) NBFL.out ?side1 ?side2 ?side3 ?side4 A3.out).mono ?_
 case side1=>repeat (first | (with_reducible first | exact HB.out | apply below_alloc | apply pw_below_drewN | apply below_drew1) | exact HB.out)
 case side2=>exact Kd.R_tight rfl HO0.out
 case side3=>exact Kd.C_kept_call HR1.out (by repeat (first | (with_reducible first | exact HK.out | apply Kept.alloc | apply Kept.drewN | apply Kept.drew) | exact HK.out)) (fun k_ hs_=>(fun e_=>(HO0.out.1 k_ e_.symm)) hs_)
 case side4=>exact HC1.out
 rintro e w5 ⟨rfl,hy0,hb,hkp⟩
 have n0_:=Aside0.mk (Kd.R_reok rfl hy0 (fun k_ e_=>HO0.out.1 k_ e_))
 have n1_:=Aside0.mk (Kept.then_ (S:=(fun k_=>P0_ k_)) (by repeat (first | (with_reducible first | exact HK.out | apply Kept.alloc | apply Kept.drewN | apply Kept.drew) | exact HK.out)) hkp (fun k_ hs_=>(fun e_=>(HO0.out.1 k_ e_.symm)) hs_))
 have n2_:=Aside0.mk (hb)
 clear HO0
 clear HK
 clear HB
 have HO0:=n0_
 have HK:=n1_
 have HB:=n2_
 clear n0_ n1_ n2_
 (try clear hb)
 (try clear hkp)
 (try clear hy0)
 go_wp2_with fail
 first | go_end0 | ((try simp only [Exit.inBlock,Exit.then]);refine bodyPost_ret (results_none rfl _ _ _) rfl ?_)
 exact ⟨by first | rfl | (simp [errW_none,errW_some] <;> rfl) | (simp [*,errW_none,errW_some] <;> rfl),by (with_reducible repeat (first | apply Kd.R_alloc | apply Kd.R_drewN | apply Kd.R_drew));exact HO0.out,by repeat (first | (with_reducible first | exact HB.out | apply below_alloc | apply pw_below_drewN | apply below_drew1) | exact HB.out),by repeat (first | (with_reducible first | exact HK.out | apply Kept.alloc | apply Kept.drewN | apply Kept.drew) | exact HK.out)⟩
end Go.Proofs.Ytjohcjfmlhihbaa.G
