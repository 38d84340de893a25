/- Several texts, joined. -/
import Derived.WalkKit
import Derived.KernelRfl
import Derived.Test.YthpahlkhiknofaaProg
import Derived.Test.YthpahlkhiknofaaQSums1
set_option linter.unusedVariables false
set_option linter.unusedSimpArgs false
namespace Go.Proofs.Ythpahlkhiknofaa.G
open Go.RowKit Go.Proofs.YthpahlkhiknofaaW.PrintWords Go.Proofs.YthpahlkhiknofaaW.PrintLast Go.Proofs.YthpahlkhiknofaaW.PrintMore
set_option maxHeartbeats 8000000
set_option maxRecDepth 100000
attribute [local go_sem] max2_int min2_int max_two min_two max_three min_three max_four min_four   -- for this text's walks alone
def card_Measures.l0:Nat → ByteArray → Int → Int → Int → ByteArray → Int → Int → Int → Int → Option (Int × Int × Int × Int × Int)
 | 0,_,_,_,_,_,_,_,_,_=>none
 | k + 1,x7,x20,x21,x390000,x390001,x391000,x391001,x391002,x391003=>if x21 < x20 then (if 0 ≤ x21 then (if x21 < (x7.size:Int) then (if (bt x7 x21) = 49 then ((bits_OnesCount.f (IntKind.u64.wrap (x21))).bind fun t395=>((card_function_sensitivity.f k x390000 x390001 x21).bind fun t396=>((card_function_certificate.f k x390000 x390001 x21).bind fun t397=>(card_Measures.l0 k x7 x20 (wrap64 (x21 + 1)) x390000 x390001 (mx x391000 t395) (mx x391001 t396) (mx x391002 t397) x391003)))) else ((card_function_sensitivity.f k x390000 x390001 x21).bind fun t398=>((card_function_certificate.f k x390000 x390001 x21).bind fun t399=>(card_Measures.l0 k x7 x20 (wrap64 (x21 + 1)) x390000 x390001 x391000 (mx x391001 t398) (mx x391002 t399) x391003)))) else (none)) else (none)) else ((card_function_ones.f k x390000 x390001).bind fun t392=>(some (x391000,x391001,x391002,(t392.length:Int),0)))
def card_Measures.f (k:Nat) (a0:ByteArray):Option (Int × Int × Int × Int × Int):=(card_newTotal.f a0).bind fun bt386=>(if bt386.2.2 = true then ((card_function_sum.f k bt386.1 bt386.2.1).bind fun t391=>(card_Measures.l0 k t391 (a0.size:Int) 0 bt386.1 bt386.2.1 0 0 0 0)) else (some (0,0,0,0,2)))
theorem card_Measures.mono_l:∀ k,(∀ y0 y1 y2 y3 y4 y5 y6 y7 y8,LeO (card_Measures.l0 k y0 y1 y2 y3 y4 y5 y6 y7 y8) (card_Measures.l0 (k + 1) y0 y1 y2 y3 y4 y5 y6 y7 y8))
 | 0=>fun _ _ _ _ _ _ _ _ _ r h=>by simp [card_Measures.l0] at h
 | k + 1=>by
  have ih0:=card_Measures.mono_l k
  intro y0 y1 y2 y3 y4 y5 y6 y7 y8
  unfold card_Measures.l0
  repeat' first
  | (with_reducible exact ih0 _ _ _ _ _ _ _ _ _)
  | (with_reducible exact card_function_certificate.mono _ _ _ _)
  | (with_reducible exact card_function_ones.mono _ _ _)
  | (with_reducible exact card_function_sensitivity.mono _ _ _ _)
  | (with_reducible exact card_function_sum.mono _ _ _)
  | (with_reducible exact LeO.refl _)
  | (with_reducible exact LeO.none _)
  | (with_reducible refine LeO.ite ?_ ?_)
  | (with_reducible refine LeO.bind ?_ (fun _=>?_))
  | exact ih0 _ _ _ _ _ _ _ _ _
  | exact card_function_certificate.mono _ _ _ _
  | exact card_function_ones.mono _ _ _
  | exact card_function_sensitivity.mono _ _ _ _
  | exact card_function_sum.mono _ _ _
  | exact LeO.none _
  | refine LeO.ite ?_ ?_
  | refine LeO.bind ?_ (fun _=>?_)
theorem card_Measures.mono:∀ a0 k,LeO (card_Measures.f k a0) (card_Measures.f (k + 1) a0):=by
 intro a0 k
 have ih0:=card_Measures.mono_l k
 unfold card_Measures.f
 repeat' first
   | (with_reducible exact ih0 _ _ _ _ _ _ _ _ _)
   | (with_reducible exact card_function_certificate.mono _ _ _ _)
   | (with_reducible exact card_function_ones.mono _ _ _)
   | (with_reducible exact card_function_sensitivity.mono _ _ _ _)
   | (with_reducible exact card_function_sum.mono _ _ _)
   | (with_reducible exact LeO.refl _)
   | (with_reducible exact LeO.none _)
   | (with_reducible refine LeO.ite ?_ ?_)
   | (with_reducible refine LeO.bind ?_ (fun _=>?_))
   | exact ih0 _ _ _ _ _ _ _ _ _
   | exact card_function_certificate.mono _ _ _ _
   | exact card_function_ones.mono _ _ _
   | exact card_function_sensitivity.mono _ _ _ _
   | exact card_function_sum.mono _ _ _
   | exact LeO.none _
   | refine LeO.ite ?_ ?_
   | refine LeO.bind ?_ (fun _=>?_)
def card_Measures.T10:Bool × List (List Nat × List Nat):=(true,[([],[]),([0],[0]),([],[]),([2],[2]),([3],[3]),([1,4],[1,4]),([0,1,2,3,4,5],[]),([6,5,4,0,1,2,3,4,5],[5,6])])
def card_Measures.B10:List Nat:=[0,1,0,4,12,31,63,127]
theorem card_Measures.tab10:rtab .any (opsOf Try.f49 10) = card_Measures.T10:=by kernel_rfl
theorem card_Measures.bits10:waitsOk card_Measures.T10.2 card_Measures.B10 = true:=by kernel_rfl
def card_Measures.T11:Bool × List (List Nat × List Nat):=(true,[([],[]),([0],[0]),([],[]),([],[]),([2,3],[2,3]),([1,4],[1,4]),([0,1,2,3,4,5],[]),([6,5,4,0,1,2,3,4,5],[5,6])])
def card_Measures.B11:List Nat:=[0,1,0,0,12,31,63,127]
theorem card_Measures.tab11:rtab .any (opsOf Try.f49 11) = card_Measures.T11:=by kernel_rfl
theorem card_Measures.bits11:waitsOk card_Measures.T11.2 card_Measures.B11 = true:=by kernel_rfl
def card_Measures.T12:Bool × List (List Nat × List Nat):=(true,[([],[]),([0],[0]),([],[]),([],[]),([2,3],[2,3]),([1,4],[1,4]),([0,1,2,3,4,5],[]),([6,5,4,0,1,2,3,4,5],[5,6])])
def card_Measures.B12:List Nat:=[0,1,0,0,12,31,63,127]
theorem card_Measures.tab12:rtab .any (opsOf Try.f49 12) = card_Measures.T12:=by kernel_rfl
theorem card_Measures.bits12:waitsOk card_Measures.T12.2 card_Measures.B12 = true:=by kernel_rfl
theorem card_Measures.calls (k:Nat) (a0:ByteArray) (r1:Int) (r2:Int) (r3:Int) (r4:Int) (r5:Int) (w:World) (h:card_Measures.f k a0 = some (r1,r2,r3,r4,r5)) :
  Calls Try.prog 49 #[.string a0] w fun e w'=>e = .returned (.tuple #[.agg #[.int .i64 r1,.int .i64 r2,.int .i64 r3,.int .i64 r4],.int .i64 r5]) ∧ Below w.heap.size w w':=by
 have hu65:=Try.underlying65
 have hu81:=Try.underlying81
 have HB:=Aside0.mk (Below.refl w.heap.size w)
 have H:((card_newTotal.f a0).bind fun bt386=>(if bt386.2.2 = true then ((card_function_sum.f k bt386.1 bt386.2.1).bind fun t391=>(card_Measures.l0 k t391 (a0.size:Int) 0 bt386.1 bt386.2.1 0 0 0 0)) else (some (0,0,0,0,2)))) = some (r1,r2,r3,r4,r5):=h
 clear h
 replace H:=Option.bind_eq_some_iff.mp H
 obtain ⟨⟨t386,t387,t388⟩,A20,H⟩:=H
 replace H:(if t388 = true then ((card_function_sum.f k t386 t387).bind fun t391=>(card_Measures.l0 k t391 (a0.size:Int) 0 t386 t387 0 0 0 0)) else (some (0,0,0,0,2))) = some (r1,r2,r3,r4,r5):=H
 have A2:=Aside0.mk A20
 clear A20
 by_cases c3:t388 = true
 case neg =>
  replace c3:=Bool.eq_false_iff.mpr c3
  subst c3
  have H1:(some (0,0,0,0,2)) = some (r1,r2,r3,r4,r5):=by rw [if_neg (show ¬ (false = true) by decide)] at H;exact H
  clear H
  have H:=H1
  clear H1
  simp only [Option.some.injEq,Prod.mk.injEq] at H
  obtain ⟨rfl,rfl,rfl,rfl,rfl⟩:=H
  go_enter Try.func49,Try.ntmps49
  go_wp2_with (first | ((with_reducible refine gate_dst (N:=2) rfl ?_);refine box_event ?hg (N:=2) ?hd (cs:=#[.int .i64 0,.int .i64 0,.int .i64 0,.int .i64 0]) (t:=65) ?hr ?_;(case hd=>rfl);(case hg=>rfl);(case hr=>first | (go_simp;done) | (go_simp;rfl));intro gb385 hg w55 hbox hb;have n0_:=Aside0.mk (below_step (by repeat (first | (with_reducible first | exact HB.out | apply below_alloc | apply pw_below_drewN | apply below_drew1) | exact HB.out)) hb);have n1_:=Aside0.mk (hbox);have n2_:=Aside0.mk ((by rw [hg];exact (below_size (by repeat (first | (with_reducible first | exact HB.out | apply below_alloc | apply pw_below_drewN | apply below_drew1) | exact HB.out))):w.heap.size ≤ gb385));have n3_:=Aside0.mk ((by rw [hg];exact (below_size (by repeat (first | (with_reducible first | exact HB.out | apply below_alloc | apply pw_below_drewN | apply below_drew1) | exact HB.out))):w.heap.size ≤ gb385));clear HB;have HB:=n0_;have BK385:=n1_;have GW385:=n2_;have GE385:=n3_;clear n0_ n1_ n2_ n3_;clear hb hbox hg) | ((with_reducible refine gate_callee (f:=58) rfl ?_);refine goesL_ (some 11) rfl rfl Try.func58 (by kernel_rfl) rfl #[.string a0] rfl (by (try simp only [List.map_toArray,List.map_cons,List.map_nil]);first | done | rfl | (simp only [List.length_drop,List.length_take];rfl)) ?_;(with_reducible refine (card_newTotal.calls a0 t386 t387 false _ A2.out).mono ?_);rintro e w56 ⟨rfl,hb⟩;refine ⟨_,rfl,?_⟩;have n0_:=Aside0.mk (blk_below (g:=gb385) (o:=.cells #[.int .i64 0,.int .i64 0,.int .i64 0,.int .i64 0] 65 (0,0)) (by (with_reducible repeat (first | refine blk_drewN ?_ _ | refine blk_drew ?_ | refine blk_alloc ?_ _));exact BK385.out) hb);have n1_:=Aside0.mk (below_step (by repeat (first | (with_reducible first | exact HB.out | apply below_alloc | apply pw_below_drewN | apply below_drew1 | refine below_set ?_ GE385.out) | exact HB.out)) hb);clear BK385;clear HB;have BK385:=n0_;have HB:=n1_;clear n0_ n1_;(try clear hb)) | ((with_reducible refine gate_dst (N:=4) rfl ?_);refine box_event ?hg (N:=4) ?hd (cs:=#[.int .i64 0,.string (⟨#[]⟩:ByteArray)]) (t:=81) ?hr ?_;(case hd=>rfl);(case hg=>rfl);(case hr=>first | (go_simp;done) | (go_simp;rfl));intro gb389 hg w57 hbox hb;have n0_:=Aside0.mk (blk_below (g:=gb385) (o:=.cells #[.int .i64 0,.int .i64 0,.int .i64 0,.int .i64 0] 65 (0,0)) (by (with_reducible repeat (first | refine blk_drewN ?_ _ | refine blk_drew ?_ | refine blk_alloc ?_ _));exact BK385.out) hb);have n1_:=Aside0.mk (below_step (by repeat (first | (with_reducible first | exact HB.out | apply below_alloc | apply pw_below_drewN | apply below_drew1 | refine below_set ?_ GE385.out) | exact HB.out)) hb);have n2_:=Aside0.mk (hbox);have n3_:=Aside0.mk ((by rw [hg];exact (below_size (by repeat (first | (with_reducible first | exact HB.out | apply below_alloc | apply pw_below_drewN | apply below_drew1 | refine below_set ?_ GE385.out) | exact HB.out))):w.heap.size ≤ gb389));have n4_:=Aside0.mk ((by rw [hg];exact (below_size (by repeat (first | (with_reducible first | exact HB.out | apply below_alloc | apply pw_below_drewN | apply below_drew1 | refine below_set ?_ GE385.out) | exact HB.out))):w.heap.size ≤ gb389));have n5_:=Aside0.mk ((by rw [hg];exact Nat.ne_of_lt (blk_lt (g:=gb385) (o:=.cells #[.int .i64 0,.int .i64 0,.int .i64 0,.int .i64 0] 65 (0,0)) (by (with_reducible repeat (first | refine blk_drewN ?_ _ | refine blk_drew ?_ | refine blk_alloc ?_ _));exact BK385.out)):gb385 ≠ gb389));have n6_:=Aside0.mk ((by rw [hg];exact Nat.ne_of_gt (blk_lt (g:=gb385) (o:=.cells #[.int .i64 0,.int .i64 0,.int .i64 0,.int .i64 0] 65 (0,0)) (by (with_reducible repeat (first | refine blk_drewN ?_ _ | refine blk_drew ?_ | refine blk_alloc ?_ _));exact BK385.out)):gb389 ≠ gb385));clear BK385;clear HB;have BK385:=n0_;have HB:=n1_;have BK389:=n2_;have GW389:=n3_;have GE389:=n4_;have NB385_389:=n5_;have NB389_385:=n6_;clear n0_ n1_ n2_ n3_ n4_ n5_ n6_;clear hb hbox hg;have hnb58:=NB389_385.out;have hnc58:=NB385_389.out;have hcz59_0:w57.cell? ⟨gb389,0,none⟩ = some (.int .i64 0):=(blk_cell BK389.out 0).trans rfl;have hcz59_1:w57.cell? ⟨gb389,1,none⟩ = some (.string (⟨#[]⟩:ByteArray)):=(blk_cell BK389.out 1).trans rfl;have hfz59_0:=blk_frozen BK389.out 0;have hfz59_1:=blk_frozen BK389.out 1;have hcz60_0:w57.cell? ⟨gb385,0,none⟩ = some (.int .i64 0):=(blk_cell BK385.out 0).trans rfl;have hcz60_1:w57.cell? ⟨gb385,1,none⟩ = some (.int .i64 0):=(blk_cell BK385.out 1).trans rfl;have hcz60_2:w57.cell? ⟨gb385,2,none⟩ = some (.int .i64 0):=(blk_cell BK385.out 2).trans rfl;have hcz60_3:w57.cell? ⟨gb385,3,none⟩ = some (.int .i64 0):=(blk_cell BK385.out 3).trans rfl;have hfz60_0:=blk_frozen BK385.out 0;have hfz60_1:=blk_frozen BK385.out 1;have hfz60_2:=blk_frozen BK385.out 2;have hfz60_3:=blk_frozen BK385.out 3))
  refine bodyPost_ret (results_ct rfl _ _ gb385 65 #[.int .i64 0,.int .i64 0,.int .i64 0,.int .i64 0] (0,0) _ rfl (by (with_reducible repeat (first | refine blk_drewN ?_ _ | refine blk_drew ?_ | refine blk_alloc ?_ _));refine blk_put (cs:=#[.int .i64 0,.int .i64 0,.int .i64 0,.int .i64 0]) ?_ 3 _ rfl;(with_reducible repeat (first | refine blk_drewN ?_ _ | refine blk_drew ?_ | refine blk_alloc ?_ _));refine blk_put (cs:=#[.int .i64 0,.int .i64 0,.int .i64 0,.int .i64 0]) ?_ 2 _ rfl;(with_reducible repeat (first | refine blk_drewN ?_ _ | refine blk_drew ?_ | refine blk_alloc ?_ _));refine blk_put (cs:=#[.int .i64 0,.int .i64 0,.int .i64 0,.int .i64 0]) ?_ 1 _ rfl;(with_reducible repeat (first | refine blk_drewN ?_ _ | refine blk_drew ?_ | refine blk_alloc ?_ _));refine blk_put (cs:=#[.int .i64 0,.int .i64 0,.int .i64 0,.int .i64 0]) ?_ 0 _ rfl;(with_reducible repeat (first | refine blk_drewN ?_ _ | refine blk_drew ?_ | refine blk_alloc ?_ _));refine blk_far ?_ NB385_389.out _;(with_reducible repeat (first | refine blk_drewN ?_ _ | refine blk_drew ?_ | refine blk_alloc ?_ _));refine blk_far ?_ NB385_389.out _;(with_reducible repeat (first | refine blk_drewN ?_ _ | refine blk_drew ?_ | refine blk_alloc ?_ _));exact BK385.out) Try.underlying65 rfl (by kernel_rfl)) rfl ?_
  exact ⟨by first | rfl | (simp [errW_none,errW_some] <;> rfl) | (simp [*,errW_none,errW_some] <;> rfl),by repeat (first | (with_reducible first | exact HB.out | apply below_alloc | apply pw_below_drewN | apply below_drew1 | refine below_set ?_ GE385.out | refine below_set ?_ GE389.out) | exact HB.out)⟩
 subst c3
 have H1:((card_function_sum.f k t386 t387).bind fun t391=>(card_Measures.l0 k t391 (a0.size:Int) 0 t386 t387 0 0 0 0)) = some (r1,r2,r3,r4,r5):=by rw [if_pos rfl] at H;exact H
 clear H
 have H:=H1
 clear H1
 replace H:=Option.bind_eq_some_iff.mp H
 obtain ⟨t391,A40,H⟩:=H
 replace H:(card_Measures.l0 k t391 (a0.size:Int) 0 t386 t387 0 0 0 0) = some (r1,r2,r3,r4,r5):=H
 have A4:=Aside0.mk A40
 clear A40
 have H':=Aside0.mk H
 clear H
 go_enter Try.func49,Try.ntmps49
 go_wp2_with (first | ((with_reducible refine gate_dst (N:=2) rfl ?_);refine box_event ?hg (N:=2) ?hd (cs:=#[.int .i64 0,.int .i64 0,.int .i64 0,.int .i64 0]) (t:=65) ?hr ?_;(case hd=>rfl);(case hg=>rfl);(case hr=>first | (go_simp;done) | (go_simp;rfl));intro gb385 hg w5 hbox hb;have n0_:=Aside0.mk (below_step (by repeat (first | (with_reducible first | exact HB.out | apply below_alloc | apply pw_below_drewN | apply below_drew1) | exact HB.out)) hb);have n1_:=Aside0.mk (hbox);have n2_:=Aside0.mk ((by rw [hg];exact (below_size (by repeat (first | (with_reducible first | exact HB.out | apply below_alloc | apply pw_below_drewN | apply below_drew1) | exact HB.out))):w.heap.size ≤ gb385));have n3_:=Aside0.mk ((by rw [hg];exact (below_size (by repeat (first | (with_reducible first | exact HB.out | apply below_alloc | apply pw_below_drewN | apply below_drew1) | exact HB.out))):w.heap.size ≤ gb385));clear HB;have HB:=n0_;have BK385:=n1_;have GW385:=n2_;have GE385:=n3_;clear n0_ n1_ n2_ n3_;clear hb hbox hg) | ((with_reducible refine gate_callee (f:=58) rfl ?_);refine goesL_ (some 11) rfl rfl Try.func58 (by kernel_rfl) rfl #[.string a0] rfl (by (try simp only [List.map_toArray,List.map_cons,List.map_nil]);first | done | rfl | (simp only [List.length_drop,List.length_take];rfl)) ?_;(with_reducible refine (card_newTotal.calls a0 t386 t387 true _ A2.out).mono ?_);rintro e w6 ⟨rfl,hb⟩;refine ⟨_,rfl,?_⟩;have n0_:=Aside0.mk (blk_below (g:=gb385) (o:=.cells #[.int .i64 0,.int .i64 0,.int .i64 0,.int .i64 0] 65 (0,0)) (by (with_reducible repeat (first | refine blk_drewN ?_ _ | refine blk_drew ?_ | refine blk_alloc ?_ _));exact BK385.out) hb);have n1_:=Aside0.mk (below_step (by repeat (first | (with_reducible first | exact HB.out | apply below_alloc | apply pw_below_drewN | apply below_drew1 | refine below_set ?_ GE385.out) | exact HB.out)) hb);clear BK385;clear HB;have BK385:=n0_;have HB:=n1_;clear n0_ n1_;(try clear hb)) | ((with_reducible refine gate_dst (N:=4) rfl ?_);refine box_event ?hg (N:=4) ?hd (cs:=#[.int .i64 0,.string (⟨#[]⟩:ByteArray)]) (t:=81) ?hr ?_;(case hd=>rfl);(case hg=>rfl);(case hr=>first | (go_simp;done) | (go_simp;rfl));intro gb389 hg w7 hbox hb;have n0_:=Aside0.mk (blk_below (g:=gb385) (o:=.cells #[.int .i64 0,.int .i64 0,.int .i64 0,.int .i64 0] 65 (0,0)) (by (with_reducible repeat (first | refine blk_drewN ?_ _ | refine blk_drew ?_ | refine blk_alloc ?_ _));exact BK385.out) hb);have n1_:=Aside0.mk (below_step (by repeat (first | (with_reducible first | exact HB.out | apply below_alloc | apply pw_below_drewN | apply below_drew1 | refine below_set ?_ GE385.out) | exact HB.out)) hb);have n2_:=Aside0.mk (hbox);have n3_:=Aside0.mk ((by rw [hg];exact (below_size (by repeat (first | (with_reducible first | exact HB.out | apply below_alloc | apply pw_below_drewN | apply below_drew1 | refine below_set ?_ GE385.out) | exact HB.out))):w.heap.size ≤ gb389));have n4_:=Aside0.mk ((by rw [hg];exact (below_size (by repeat (first | (with_reducible first | exact HB.out | apply below_alloc | apply pw_below_drewN | apply below_drew1 | refine below_set ?_ GE385.out) | exact HB.out))):w.heap.size ≤ gb389));have n5_:=Aside0.mk ((by rw [hg];exact Nat.ne_of_lt (blk_lt (g:=gb385) (o:=.cells #[.int .i64 0,.int .i64 0,.int .i64 0,.int .i64 0] 65 (0,0)) (by (with_reducible repeat (first | refine blk_drewN ?_ _ | refine blk_drew ?_ | refine blk_alloc ?_ _));exact BK385.out)):gb385 ≠ gb389));have n6_:=Aside0.mk ((by rw [hg];exact Nat.ne_of_gt (blk_lt (g:=gb385) (o:=.cells #[.int .i64 0,.int .i64 0,.int .i64 0,.int .i64 0] 65 (0,0)) (by (with_reducible repeat (first | refine blk_drewN ?_ _ | refine blk_drew ?_ | refine blk_alloc ?_ _));exact BK385.out)):gb389 ≠ gb385));clear BK385;clear HB;have BK385:=n0_;have HB:=n1_;have BK389:=n2_;have GW389:=n3_;have GE389:=n4_;have NB385_389:=n5_;have NB389_385:=n6_;clear n0_ n1_ n2_ n3_ n4_ n5_ n6_;clear hb hbox hg;have hnb8:=NB389_385.out;have hnc8:=NB385_389.out;have hcz9_0:w7.cell? ⟨gb389,0,none⟩ = some (.int .i64 0):=(blk_cell BK389.out 0).trans rfl;have hcz9_1:w7.cell? ⟨gb389,1,none⟩ = some (.string (⟨#[]⟩:ByteArray)):=(blk_cell BK389.out 1).trans rfl;have hfz9_0:=blk_frozen BK389.out 0;have hfz9_1:=blk_frozen BK389.out 1) | ((with_reducible refine gate_dst (N:=6) rfl ?_);refine box_event ?hg (N:=6) ?hd (cs:=#[.int .i64 0,.int .i64 0,.int .i64 0,.int .i64 0]) (t:=65) ?hr ?_;(case hd=>rfl);(case hg=>rfl);(case hr=>first | (go_simp;done) | (go_simp;rfl));intro gb390 hg w10 hbox hb;have n0_:=Aside0.mk (blk_below (g:=gb385) (o:=.cells #[.int .i64 0,.int .i64 0,.int .i64 0,.int .i64 0] 65 (0,0)) (by (with_reducible repeat (first | refine blk_drewN ?_ _ | refine blk_drew ?_ | refine blk_alloc ?_ _));refine blk_far ?_ NB385_389.out _;(with_reducible repeat (first | refine blk_drewN ?_ _ | refine blk_drew ?_ | refine blk_alloc ?_ _));refine blk_far ?_ NB385_389.out _;(with_reducible repeat (first | refine blk_drewN ?_ _ | refine blk_drew ?_ | refine blk_alloc ?_ _));exact BK385.out) hb);have n1_:=Aside0.mk (blk_below (g:=gb389) (o:=.cells #[.int .i64 t386,.string t387] 81 (0,0)) (by (with_reducible repeat (first | refine blk_drewN ?_ _ | refine blk_drew ?_ | refine blk_alloc ?_ _));refine blk_put (cs:=#[.int .i64 t386,.string (⟨#[]⟩:ByteArray)]) ?_ 1 _ rfl;(with_reducible repeat (first | refine blk_drewN ?_ _ | refine blk_drew ?_ | refine blk_alloc ?_ _));refine blk_put (cs:=#[.int .i64 0,.string (⟨#[]⟩:ByteArray)]) ?_ 0 _ rfl;(with_reducible repeat (first | refine blk_drewN ?_ _ | refine blk_drew ?_ | refine blk_alloc ?_ _));exact BK389.out) hb);have n2_:=Aside0.mk (below_step (by repeat (first | (with_reducible first | exact HB.out | apply below_alloc | apply pw_below_drewN | apply below_drew1 | refine below_set ?_ GE385.out | refine below_set ?_ GE389.out) | exact HB.out)) hb);have n3_:=Aside0.mk (hbox);have n4_:=Aside0.mk ((by rw [hg];exact (below_size (by repeat (first | (with_reducible first | exact HB.out | apply below_alloc | apply pw_below_drewN | apply below_drew1 | refine below_set ?_ GE385.out | refine below_set ?_ GE389.out) | exact HB.out))):w.heap.size ≤ gb390));have n5_:=Aside0.mk ((by rw [hg];exact (below_size (by repeat (first | (with_reducible first | exact HB.out | apply below_alloc | apply pw_below_drewN | apply below_drew1 | refine below_set ?_ GE385.out | refine below_set ?_ GE389.out) | exact HB.out))):w.heap.size ≤ gb390));have n6_:=Aside0.mk ((by rw [hg];exact Nat.ne_of_lt (blk_lt (g:=gb385) (o:=.cells #[.int .i64 0,.int .i64 0,.int .i64 0,.int .i64 0] 65 (0,0)) (by (with_reducible repeat (first | refine blk_drewN ?_ _ | refine blk_drew ?_ | refine blk_alloc ?_ _));refine blk_far ?_ NB385_389.out _;(with_reducible repeat (first | refine blk_drewN ?_ _ | refine blk_drew ?_ | refine blk_alloc ?_ _));refine blk_far ?_ NB385_389.out _;(with_reducible repeat (first | refine blk_drewN ?_ _ | refine blk_drew ?_ | refine blk_alloc ?_ _));exact BK385.out)):gb385 ≠ gb390));have n7_:=Aside0.mk ((by rw [hg];exact Nat.ne_of_gt (blk_lt (g:=gb385) (o:=.cells #[.int .i64 0,.int .i64 0,.int .i64 0,.int .i64 0] 65 (0,0)) (by (with_reducible repeat (first | refine blk_drewN ?_ _ | refine blk_drew ?_ | refine blk_alloc ?_ _));refine blk_far ?_ NB385_389.out _;(with_reducible repeat (first | refine blk_drewN ?_ _ | refine blk_drew ?_ | refine blk_alloc ?_ _));refine blk_far ?_ NB385_389.out _;(with_reducible repeat (first | refine blk_drewN ?_ _ | refine blk_drew ?_ | refine blk_alloc ?_ _));exact BK385.out)):gb390 ≠ gb385));have n8_:=Aside0.mk ((by rw [hg];exact Nat.ne_of_lt (blk_lt (g:=gb389) (o:=.cells #[.int .i64 t386,.string t387] 81 (0,0)) (by (with_reducible repeat (first | refine blk_drewN ?_ _ | refine blk_drew ?_ | refine blk_alloc ?_ _));refine blk_put (cs:=#[.int .i64 t386,.string (⟨#[]⟩:ByteArray)]) ?_ 1 _ rfl;(with_reducible repeat (first | refine blk_drewN ?_ _ | refine blk_drew ?_ | refine blk_alloc ?_ _));refine blk_put (cs:=#[.int .i64 0,.string (⟨#[]⟩:ByteArray)]) ?_ 0 _ rfl;(with_reducible repeat (first | refine blk_drewN ?_ _ | refine blk_drew ?_ | refine blk_alloc ?_ _));exact BK389.out)):gb389 ≠ gb390));have n9_:=Aside0.mk ((by rw [hg];exact Nat.ne_of_gt (blk_lt (g:=gb389) (o:=.cells #[.int .i64 t386,.string t387] 81 (0,0)) (by (with_reducible repeat (first | refine blk_drewN ?_ _ | refine blk_drew ?_ | refine blk_alloc ?_ _));refine blk_put (cs:=#[.int .i64 t386,.string (⟨#[]⟩:ByteArray)]) ?_ 1 _ rfl;(with_reducible repeat (first | refine blk_drewN ?_ _ | refine blk_drew ?_ | refine blk_alloc ?_ _));refine blk_put (cs:=#[.int .i64 0,.string (⟨#[]⟩:ByteArray)]) ?_ 0 _ rfl;(with_reducible repeat (first | refine blk_drewN ?_ _ | refine blk_drew ?_ | refine blk_alloc ?_ _));exact BK389.out)):gb390 ≠ gb389));clear BK385;clear BK389;clear HB;have BK385:=n0_;have BK389:=n1_;have HB:=n2_;have BK390:=n3_;have GW390:=n4_;have GE390:=n5_;have NB385_390:=n6_;have NB390_385:=n7_;have NB389_390:=n8_;have NB390_389:=n9_;clear n0_ n1_ n2_ n3_ n4_ n5_ n6_ n7_ n8_ n9_;clear hb hbox hg;have hnb11:=NB389_390.out;have hnc11:=NB390_389.out;have hcz12_0:w10.cell? ⟨gb389,0,none⟩ = some (.int .i64 t386):=(blk_cell BK389.out 0).trans rfl;have hcz12_1:w10.cell? ⟨gb389,1,none⟩ = some (.string t387):=(blk_cell BK389.out 1).trans rfl;have hfz12_0:=blk_frozen BK389.out 0;have hfz12_1:=blk_frozen BK389.out 1) | ((with_reducible refine gate_callee (f:=83) rfl ?_);refine goesL_ (some 18) rfl rfl Try.func83 (by kernel_rfl) rfl #[.agg #[.int .i64 t386,.string t387]] rfl (by (try simp only [List.map_toArray,List.map_cons,List.map_nil]);first | done | rfl | (simp only [List.length_drop,List.length_take];rfl)) ?_;(with_reducible refine (card_function_sum.calls k t386 t387 t391 _ A4.out).mono ?_);rintro e w13 ⟨rfl,hb⟩;refine ⟨_,rfl,?_⟩;have n0_:=Aside0.mk (blk_below (g:=gb385) (o:=.cells #[.int .i64 0,.int .i64 0,.int .i64 0,.int .i64 0] 65 (0,0)) (by (with_reducible repeat (first | refine blk_drewN ?_ _ | refine blk_drew ?_ | refine blk_alloc ?_ _));exact BK385.out) hb);have n1_:=Aside0.mk (blk_below (g:=gb389) (o:=.cells #[.int .i64 t386,.string t387] 81 (0,0)) (by (with_reducible repeat (first | refine blk_drewN ?_ _ | refine blk_drew ?_ | refine blk_alloc ?_ _));exact BK389.out) hb);have n2_:=Aside0.mk (blk_below (g:=gb390) (o:=.cells #[.int .i64 0,.int .i64 0,.int .i64 0,.int .i64 0] 65 (0,0)) (by (with_reducible repeat (first | refine blk_drewN ?_ _ | refine blk_drew ?_ | refine blk_alloc ?_ _));exact BK390.out) hb);have n3_:=Aside0.mk (below_step (by repeat (first | (with_reducible first | exact HB.out | apply below_alloc | apply pw_below_drewN | apply below_drew1 | refine below_set ?_ GE385.out | refine below_set ?_ GE389.out | refine below_set ?_ GE390.out) | exact HB.out)) hb);clear BK385;clear BK389;clear BK390;clear HB;have BK385:=n0_;have BK389:=n1_;have BK390:=n2_;have HB:=n3_;clear n0_ n1_ n2_ n3_;(try clear hb)))
 go_loopg [21] k (fun kq v21 w'=>∃ (x21_1:Int) (x391000_1:Int) (x391001_1:Int) (x391002_1:Int),v21 = .int .i64 x21_1 ∧ Aside0 (card_Measures.l0 kq t391 (a0.size:Int) x21_1 t386 t387 x391000_1 x391001_1 x391002_1 0 = some (r1,r2,r3,r4,r5)) ∧ Aside0 (kq ≤ k) ∧ Aside0 (w'.heap[gb385]? = some (.cells #[.int .i64 0,.int .i64 0,.int .i64 0,.int .i64 0] 65 (0,0))) ∧ Aside0 (w'.heap[gb389]? = some (.cells #[.int .i64 t386,.string t387] 81 (0,0))) ∧ Aside0 (w'.heap[gb390]? = some (.cells #[.int .i64 x391000_1,.int .i64 x391001_1,.int .i64 x391002_1,.int .i64 0] 65 (0,0))) ∧ Aside0 (Below w.heap.size w w'))
 case atStart=>exact ⟨(0),(0),(0),(0),(by first | rfl | (simp;done) | (simp [*];done)),H',⟨Nat.le_refl _⟩,⟨by (with_reducible repeat (first | refine blk_drewN ?_ _ | refine blk_drew ?_ | refine blk_alloc ?_ _));exact BK385.out⟩,⟨by (with_reducible repeat (first | refine blk_drewN ?_ _ | refine blk_drew ?_ | refine blk_alloc ?_ _));exact BK389.out⟩,⟨by (with_reducible repeat (first | refine blk_drewN ?_ _ | refine blk_drew ?_ | refine blk_alloc ?_ _));exact BK390.out⟩,⟨by repeat (first | (with_reducible first | exact HB.out | apply below_alloc | apply pw_below_drewN | apply below_drew1 | refine below_set ?_ GE385.out | refine below_set ?_ GE389.out | refine below_set ?_ GE390.out) | exact HB.out)⟩⟩
 case round =>
  clear H'
  try clear c1
  try clear p2
  try clear c3
  try clear c4
  try clear c5
  try clear c8
  try clear c11
  try clear hcz12_0
  try clear hcz12_1
  try clear hcz9_0
  try clear hcz9_1
  try clear hfz12_0
  try clear hfz12_1
  try clear hfz9_0
  try clear hfz9_1
  obtain ⟨x21_1,x391000_1,x391001_1,x391002_1,rfl,HA,HK1,BK385,BK389,BK390,HB⟩:=hrel
  cases gk with
  | zero=>exact absurd HA.out (by simp [card_Measures.l0])
  | succ k1 =>
   have H:=HA.out
   clear HA
   simp only [card_Measures.l0] at H
   by_cases c14:x21_1 < (a0.size:Int)
   case neg =>
    rw [if_neg c14] at H
    have c14b0:decide (x21_1 < (a0.size:Int)) = false:=decide_eq_false c14
    clear c14
    replace H:=Option.bind_eq_some_iff.mp H
    obtain ⟨t392,A460,H⟩:=H
    replace H:(some (x391000_1,x391001_1,x391002_1,(t392.length:Int),0)) = some (r1,r2,r3,r4,r5):=H
    have A46:=Aside0.mk A460
    clear A460
    simp only [Option.some.injEq,Prod.mk.injEq] at H
    obtain ⟨rfl,rfl,rfl,rfl,rfl⟩:=H
    have hnb47:=NB389_385.out
    have hnc47:=NB385_389.out
    have hnb48:=NB389_390.out
    have hnc48:=NB390_389.out
    have hcz49_0:wr.cell? ⟨gb389,0,none⟩ = some (.int .i64 t386):=(blk_cell BK389.out 0).trans rfl
    have hcz49_1:wr.cell? ⟨gb389,1,none⟩ = some (.string t387):=(blk_cell BK389.out 1).trans rfl
    have hfz49_0:=blk_frozen BK389.out 0
    have hfz49_1:=blk_frozen BK389.out 1
    go_wp2_with (first | ((with_reducible refine gate_callee (f:=87) rfl ?_);refine goesL_ (some 51) rfl rfl Try.func87 (by kernel_rfl) rfl #[.agg #[.int .i64 t386,.string t387]] rfl (by (try simp only [List.map_toArray,List.map_cons,List.map_nil]);first | done | rfl | (simp only [List.length_drop,List.length_take];rfl)) ?_;(with_reducible refine (card_function_ones.calls k1 t386 t387 t392 _ A46.out).mono ?_);rintro e w50 ⟨v393,rfl,ho0,hb⟩;refine ⟨_,rfl,?_⟩;have n0_:=Aside0.mk (Kd.R_lower ho0 (below_size (by repeat (first | (with_reducible first | exact HB.out | apply below_alloc | apply pw_below_drewN | apply below_drew1 | refine below_set ?_ GE385.out | refine below_set ?_ GE389.out | refine below_set ?_ GE390.out) | exact HB.out))));have n1_:=Aside0.mk (blk_below (g:=gb385) (o:=.cells #[.int .i64 0,.int .i64 0,.int .i64 0,.int .i64 0] 65 (0,0)) (by (with_reducible repeat (first | refine blk_drewN ?_ _ | refine blk_drew ?_ | refine blk_alloc ?_ _));exact BK385.out) hb);have n2_:=Aside0.mk (blk_below (g:=gb389) (o:=.cells #[.int .i64 t386,.string t387] 81 (0,0)) (by (with_reducible repeat (first | refine blk_drewN ?_ _ | refine blk_drew ?_ | refine blk_alloc ?_ _));exact BK389.out) hb);have n3_:=Aside0.mk (blk_below (g:=gb390) (o:=.cells #[.int .i64 x391000_1,.int .i64 x391001_1,.int .i64 x391002_1,.int .i64 0] 65 (0,0)) (by (with_reducible repeat (first | refine blk_drewN ?_ _ | refine blk_drew ?_ | refine blk_alloc ?_ _));exact BK390.out) hb);have n4_:=Aside0.mk (below_step (by repeat (first | (with_reducible first | exact HB.out | apply below_alloc | apply pw_below_drewN | apply below_drew1 | refine below_set ?_ GE385.out | refine below_set ?_ GE389.out | refine below_set ?_ GE390.out) | exact HB.out)) hb);clear BK385;clear BK389;clear BK390;clear HB;have HO394:=n0_;have BK385:=n1_;have BK389:=n2_;have BK390:=n3_;have HB:=n4_;clear n0_ n1_ n2_ n3_ n4_;(try clear hb);(try clear ho0);obtain ⟨Ao51,co51,eo51⟩:=Kd.R_slice HO394.out;subst eo51;have hnb52:=NB390_385.out;have hnc52:=NB385_390.out;have hcz53_0:w50.cell? ⟨gb390,0,none⟩ = some (.int .i64 x391000_1):=(blk_cell BK390.out 0).trans rfl;have hcz53_1:w50.cell? ⟨gb390,1,none⟩ = some (.int .i64 x391001_1):=(blk_cell BK390.out 1).trans rfl;have hcz53_2:w50.cell? ⟨gb390,2,none⟩ = some (.int .i64 x391002_1):=(blk_cell BK390.out 2).trans rfl;have hcz53_3:w50.cell? ⟨gb390,3,none⟩ = some (.int .i64 0):=(blk_cell BK390.out 3).trans rfl;have hfz53_0:=blk_frozen BK390.out 0;have hfz53_1:=blk_frozen BK390.out 1;have hfz53_2:=blk_frozen BK390.out 2;have hfz53_3:=blk_frozen BK390.out 3;have hcz54_0:w50.cell? ⟨gb385,0,none⟩ = some (.int .i64 0):=(blk_cell BK385.out 0).trans rfl;have hcz54_1:w50.cell? ⟨gb385,1,none⟩ = some (.int .i64 0):=(blk_cell BK385.out 1).trans rfl;have hcz54_2:w50.cell? ⟨gb385,2,none⟩ = some (.int .i64 0):=(blk_cell BK385.out 2).trans rfl;have hcz54_3:w50.cell? ⟨gb385,3,none⟩ = some (.int .i64 0):=(blk_cell BK385.out 3).trans rfl;have hfz54_0:=blk_frozen BK385.out 0;have hfz54_1:=blk_frozen BK385.out 1;have hfz54_2:=blk_frozen BK385.out 2;have hfz54_3:=blk_frozen BK385.out 3))
    refine bodyPost_ret (results_ct rfl _ _ gb385 65 #[.int .i64 x391000_1,.int .i64 x391001_1,.int .i64 x391002_1,.int .i64 (t392.length:Int)] (0,0) _ rfl (by (with_reducible repeat (first | refine blk_drewN ?_ _ | refine blk_drew ?_ | refine blk_alloc ?_ _));refine blk_put (cs:=#[.int .i64 x391000_1,.int .i64 x391001_1,.int .i64 x391002_1,.int .i64 0]) ?_ 3 _ rfl;(with_reducible repeat (first | refine blk_drewN ?_ _ | refine blk_drew ?_ | refine blk_alloc ?_ _));refine blk_put (cs:=#[.int .i64 x391000_1,.int .i64 x391001_1,.int .i64 0,.int .i64 0]) ?_ 2 _ rfl;(with_reducible repeat (first | refine blk_drewN ?_ _ | refine blk_drew ?_ | refine blk_alloc ?_ _));refine blk_put (cs:=#[.int .i64 x391000_1,.int .i64 0,.int .i64 0,.int .i64 0]) ?_ 1 _ rfl;(with_reducible repeat (first | refine blk_drewN ?_ _ | refine blk_drew ?_ | refine blk_alloc ?_ _));refine blk_put (cs:=#[.int .i64 0,.int .i64 0,.int .i64 0,.int .i64 0]) ?_ 0 _ rfl;(with_reducible repeat (first | refine blk_drewN ?_ _ | refine blk_drew ?_ | refine blk_alloc ?_ _));refine blk_far ?_ NB385_390.out _;(with_reducible repeat (first | refine blk_drewN ?_ _ | refine blk_drew ?_ | refine blk_alloc ?_ _));exact BK385.out) Try.underlying65 rfl (by kernel_rfl)) rfl ?_
    exact ⟨by first | rfl | (simp [errW_none,errW_some] <;> rfl) | (simp [*,errW_none,errW_some] <;> rfl),by repeat (first | (with_reducible first | exact HB.out | apply below_alloc | apply pw_below_drewN | apply below_drew1 | refine below_set ?_ GE385.out | refine below_set ?_ GE389.out | refine below_set ?_ GE390.out) | exact HB.out)⟩
   rw [if_pos c14] at H
   have c14b0:decide (x21_1 < (a0.size:Int)) = true:=decide_eq_true c14
   clear c14
   by_cases c15:0 ≤ x21_1
   case neg =>
    rw [if_neg c15] at H
    exact absurd H (by simp)
   rw [if_pos c15] at H
   have c15b0:decide (0 ≤ x21_1) = true:=decide_eq_true c15
   clear c15
   by_cases c16:x21_1 < (t391.size:Int)
   case neg =>
    rw [if_neg c16] at H
    exact absurd H (by simp)
   rw [if_pos c16] at H
   have c16b0:decide (x21_1 < (t391.size:Int)) = true:=decide_eq_true c16
   clear c16
   by_cases c18:(bt t391 x21_1) = 49
   case neg =>
    rw [if_neg c18] at H
    have c18b0:((bt t391 x21_1) == 49) = false:=beq_eq_false_iff_ne.mpr c18
    have c18b1:((bt t391 x21_1) != 49) = true:=bne_iff_ne.mpr c18
    replace H:=Option.bind_eq_some_iff.mp H
    obtain ⟨t398,A350,H⟩:=H
    replace H:((card_function_certificate.f k1 t386 t387 x21_1).bind fun t399=>(card_Measures.l0 k1 t391 (a0.size:Int) (wrap64 (x21_1 + 1)) t386 t387 x391000_1 (mx x391001_1 t398) (mx x391002_1 t399) 0)) = some (r1,r2,r3,r4,r5):=H
    have A35:=Aside0.mk A350
    clear A350
    obtain ⟨ji36,hji36⟩:∃ j_:Int,(mx x391001_1 t398) = j_:=⟨_,rfl⟩
    replace H:((card_function_certificate.f k1 t386 t387 x21_1).bind fun t399=>(card_Measures.l0 k1 t391 (a0.size:Int) (wrap64 (x21_1 + 1)) t386 t387 x391000_1 ji36 (mx x391002_1 t399) 0)) = some (r1,r2,r3,r4,r5):=by first | (rw [hji36] at H;exact H) | (simp only [hji36] at H ⊢;exact H)
    (try rw [hji36] at A35)
    have hji36_:(if x391001_1 < t398 then t398 else x391001_1) = ji36:=hji36
    replace H:=Option.bind_eq_some_iff.mp H
    obtain ⟨t399,A370,H⟩:=H
    replace H:(card_Measures.l0 k1 t391 (a0.size:Int) (wrap64 (x21_1 + 1)) t386 t387 x391000_1 ji36 (mx x391002_1 t399) 0) = some (r1,r2,r3,r4,r5):=H
    have A37:=Aside0.mk A370
    clear A370
    obtain ⟨ji38,hji38⟩:∃ j_:Int,(mx x391002_1 t399) = j_:=⟨_,rfl⟩
    replace H:(card_Measures.l0 k1 t391 (a0.size:Int) (wrap64 (x21_1 + 1)) t386 t387 x391000_1 ji36 ji38 0) = some (r1,r2,r3,r4,r5):=by first | (rw [hji38] at H;exact H) | (simp only [hji38] at H ⊢;exact H)
    (try rw [hji38] at A35)
    (try rw [hji38] at A37)
    have hji38_:(if x391002_1 < t399 then t399 else x391002_1) = ji38:=hji38
    have H':=Aside0.mk H
    clear H
    have p17:0 ≤ (x21_1:Int):=of_decide_eq_true (by first | (with_reducible assumption) | assumption)
    have q17:x21_1 < (t391.size:Int):=of_decide_eq_true (by first | (with_reducible assumption) | assumption)
    have hx17:=bt_at t391 x21_1
    replace p17:=eq_true p17
    replace q17:=eq_true q17
    try go_wp2
    (try simp only [setCell_drewN])
    have n0_:=Aside0.mk (blk_drew BK385.out)
    have n1_:=Aside0.mk (blk_drew BK389.out)
    have n2_:=Aside0.mk (blk_drew BK390.out)
    have n3_:=Aside0.mk (below_drew1 HB.out)
    clear BK385
    clear BK389
    clear BK390
    clear HB
    have BK385:=n0_
    have BK389:=n1_
    have BK390:=n2_
    have HB:=n3_
    clear n0_ n1_ n2_ n3_
    refine start_ (n:=8) (S:=fun w'=>w'.cell? ⟨gb390,0,none⟩ = some (.int .i64 x391000_1) ∧ w'.cell? ⟨gb390,1,none⟩ = some (.int .i64 x391001_1) ∧ w'.cell? ⟨gb390,2,none⟩ = some (.int .i64 x391002_1) ∧ w'.cell? ⟨gb390,3,none⟩ = some (.int .i64 0) ∧ w'.cell? ⟨gb389,0,none⟩ = some (.int .i64 t386) ∧ w'.cell? ⟨gb389,1,none⟩ = some (.string t387)) (ds:=[7]) #[false,false,false,false,false,false,false,false] (by kernel_rfl) rfl rfl ⟨(blk_cell BK390.out 0).trans rfl,(blk_cell BK390.out 1).trans rfl,(blk_cell BK390.out 2).trans rfl,(blk_cell BK390.out 3).trans rfl,(blk_cell BK389.out 0).trans rfl,(blk_cell BK389.out 1).trans rfl⟩ (fun hHeld=>?_);refine with_tabW card_Measures.tab11 card_Measures.bits11 (fun HT_ HW_=>?_)
    generalize wr.drew = w39 at BK385 BK389 BK390 HB hHeld ⊢
    refine pure_ (i:=0) (N:=some 35) (v:=?_) (a':=?_) #[true,false,false,false,false,false,false,false] rfl rfl (any_of HT_.out (by kernel_rfl)) (fun _ _ _ h=>h) (Or.inl ⟨by rfl,?_⟩) ?_ ?_
    rotate_left
    ·intro w'
     go_simp
     with_reducible rfl
    rotate_left
    ·simp only [Act.put,List.setIfInBounds_toArray,List.set_cons_zero,List.set_cons_succ,i64_w,i32_w]
     rfl
    refine pure_ (i:=3) (N:=some 38) (v:=?_) (a':=?_) #[true,false,false,true,false,false,false,false] rfl rfl (any_of HT_.out (by kernel_rfl)) (fun _ _ _ h=>h) (Or.inl ⟨by rfl,?_⟩) ?_ ?_
    rotate_left
    ·intro w'
     go_simp
     with_reducible rfl
    rotate_left
    ·simp only [Act.put,List.setIfInBounds_toArray,List.set_cons_zero,List.set_cons_succ,i64_w,i32_w]
     rfl
    refine take_ (i:=1) (N:=some 36) (v:=?_) (a':=?_) #[true,true,false,true,false,false,false,false] rfl rfl (take_ofW HT_.out HW_.out (by kernel_rfl)) (fun _ _ _ h=>h) (Or.inl ⟨by rfl,?_⟩) hHeld ?_ ?_
    rotate_left
    ·rintro w' ⟨s0,s1,s2,s3,s4,s5⟩
     go_simp
     with_reducible rfl
    rotate_left
    ·simp only [Act.put,List.setIfInBounds_toArray,List.set_cons_zero,List.set_cons_succ,i64_w,i32_w]
     rfl
    refine take_ (i:=2) (N:=some 37) (v:=?_) (a':=?_) #[true,true,true,true,false,false,false,false] rfl rfl (take_ofW HT_.out HW_.out (by kernel_rfl)) (fun _ _ _ h=>h) (Or.inl ⟨by rfl,?_⟩) hHeld ?_ ?_
    rotate_left
    ·rintro w' ⟨s0,s1,s2,s3,s4,s5⟩
     go_simp
     with_reducible rfl
    rotate_left
    ·simp only [Act.put,List.setIfInBounds_toArray,List.set_cons_zero,List.set_cons_succ,i64_w,i32_w]
     rfl
    refine one_ (i:=4) (N:=some 39) #[true,true,true,true,true,false,false,false] rfl rfl (one_of HT_.out (by kernel_rfl)) (by decide) (fun K hK=>?_)
    refine goes_ Try.func85 (by kernel_rfl) rfl #[.agg #[.int .i64 t386,.string t387],.int .i64 x21_1] (by rfl) rfl rfl (by (try simp only [List.map_toArray,List.map_cons,List.map_nil]);first | done | rfl | (simp only [List.length_drop,List.length_take];rfl)) ?_
    with_reducible refine (card_function_sensitivity.calls k1 t386 t387 x21_1 t398 _ A35.out).mono ?_
    rintro e w40 ⟨rfl,hb⟩
    refine ⟨_,rfl,?_⟩
    have n0_:=Aside0.mk (blk_below (g:=gb385) (o:=.cells #[.int .i64 0,.int .i64 0,.int .i64 0,.int .i64 0] 65 (0,0)) (by (with_reducible repeat (first | refine blk_drewN ?_ _ | refine blk_drew ?_ | refine blk_alloc ?_ _));exact BK385.out) hb)
    have n1_:=Aside0.mk (blk_below (g:=gb389) (o:=.cells #[.int .i64 t386,.string t387] 81 (0,0)) (by (with_reducible repeat (first | refine blk_drewN ?_ _ | refine blk_drew ?_ | refine blk_alloc ?_ _));exact BK389.out) hb)
    have n2_:=Aside0.mk (blk_below (g:=gb390) (o:=.cells #[.int .i64 x391000_1,.int .i64 x391001_1,.int .i64 x391002_1,.int .i64 0] 65 (0,0)) (by (with_reducible repeat (first | refine blk_drewN ?_ _ | refine blk_drew ?_ | refine blk_alloc ?_ _));exact BK390.out) hb)
    have n3_:=Aside0.mk (below_step (by repeat (first | (with_reducible first | exact HB.out | apply below_alloc | apply pw_below_drewN | apply below_drew1 | refine below_set ?_ GE385.out | refine below_set ?_ GE389.out | refine below_set ?_ GE390.out) | exact HB.out)) hb)
    clear BK385
    clear BK389
    clear BK390
    clear HB
    have BK385:=n0_
    have BK389:=n1_
    have BK390:=n2_
    have HB:=n3_
    clear n0_ n1_ n2_ n3_
    (try clear hb)
    refine hK.out _ _ ⟨(blk_cell BK390.out 0).trans rfl,(blk_cell BK390.out 1).trans rfl,(blk_cell BK390.out 2).trans rfl,(blk_cell BK390.out 3).trans rfl,(blk_cell BK389.out 0).trans rfl,(blk_cell BK389.out 1).trans rfl⟩ (fun hHeld=>?_)
    clear hK K
    refine norm_ (a':=?_) ?_ ?_
    rotate_left
    ·show Act.put _ (some 39) _ = _
     simp only [Act.put,List.setIfInBounds_toArray,List.set_cons_zero,List.set_cons_succ,i64_w,i32_w]
     rfl
    refine pure_ (i:=5) (N:=some 40) (v:=?_) (a':=?_) #[true,true,true,true,true,true,false,false] rfl rfl (any_of HT_.out (by kernel_rfl)) (fun _ _ _ h=>h) (Or.inl ⟨by rfl,?_⟩) ?_ ?_
    rotate_left
    ·intro w'
     go_simp
     with_reducible rfl
    rotate_left
    ·simp only [Act.put,List.setIfInBounds_toArray,List.set_cons_zero,List.set_cons_succ,i64_w,i32_w]
     rfl
    refine pure_ (i:=6) (N:=some 41) (v:=?_) (a':=?_) #[true,true,true,true,true,true,true,false] rfl rfl (any_of HT_.out (by kernel_rfl)) (fun _ _ _ h=>h) (Or.inl ⟨by rfl,?_⟩) ?_ ?_
    rotate_left
    ·intro w'
     go_simp
     with_reducible rfl
    rotate_left
    ·simp only [Act.put,List.setIfInBounds_toArray,List.set_cons_zero,List.set_cons_succ,i64_w,i32_w]
     rfl
    refine last_ (i:=7) (N:=none) #[true,true,true,true,true,true,true,true] rfl rfl (one_of HT_.out (by kernel_rfl)) (by decide) (fun K hK=>?_)
    have hs41:w40.cell? ⟨gb390,1,none⟩ = some (.int .i64 x391001_1):=(blk_cell BK390.out 1).trans rfl
    have hfs41:=blk_frozen BK390.out 1
    have hns41_0:=NB385_390.out
    have hns41_1:=NB389_390.out
    have hms41_0:=NB390_385.out
    have hms41_1:=NB390_389.out
    refine skip_ (w1:=?_) (by rfl) rfl ?_ ?_
    rotate_left
    ·go_simp
     rfl
    refine hK.out _ _ ?_
    clear hK K
    refine done_ (done_of HT_.out (by kernel_rfl)) ?_
    try go_wp2
    (try simp only [setCell_drewN])
    have n0_:Aside0 ((w40.setCell ⟨gb390,1,none⟩ (.int .i64 ji36)).heap[gb385]? = some (.cells #[.int .i64 0,.int .i64 0,.int .i64 0,.int .i64 0] 65 (0,0))):=⟨by (with_reducible repeat (first | refine blk_drewN ?_ _ | refine blk_drew ?_ | refine blk_alloc ?_ _));refine blk_far ?_ NB385_390.out _;(with_reducible repeat (first | refine blk_drewN ?_ _ | refine blk_drew ?_ | refine blk_alloc ?_ _));exact BK385.out⟩
    have n1_:Aside0 ((w40.setCell ⟨gb390,1,none⟩ (.int .i64 ji36)).heap[gb389]? = some (.cells #[.int .i64 t386,.string t387] 81 (0,0))):=⟨by (with_reducible repeat (first | refine blk_drewN ?_ _ | refine blk_drew ?_ | refine blk_alloc ?_ _));refine blk_far ?_ NB389_390.out _;(with_reducible repeat (first | refine blk_drewN ?_ _ | refine blk_drew ?_ | refine blk_alloc ?_ _));exact BK389.out⟩
    have n2_:Aside0 ((w40.setCell ⟨gb390,1,none⟩ (.int .i64 ji36)).heap[gb390]? = some (.cells #[.int .i64 x391000_1,.int .i64 ji36,.int .i64 x391002_1,.int .i64 0] 65 (0,0))):=⟨by (with_reducible repeat (first | refine blk_drewN ?_ _ | refine blk_drew ?_ | refine blk_alloc ?_ _));refine blk_put (cs:=#[.int .i64 x391000_1,.int .i64 x391001_1,.int .i64 x391002_1,.int .i64 0]) ?_ 1 _ rfl;(with_reducible repeat (first | refine blk_drewN ?_ _ | refine blk_drew ?_ | refine blk_alloc ?_ _));exact BK390.out⟩
    have n3_:Aside0 (Below w.heap.size w (w40.setCell ⟨gb390,1,none⟩ (.int .i64 ji36))):=⟨by repeat (first | (with_reducible first | exact HB.out | apply below_alloc | apply pw_below_drewN | apply below_drew1 | refine below_set ?_ GE385.out | refine below_set ?_ GE389.out | refine below_set ?_ GE390.out) | exact HB.out)⟩
    (try clear BK385)
    (try clear BK389)
    (try clear BK390)
    (try clear HB)
    generalize (w40.setCell ⟨gb390,1,none⟩ (.int .i64 ji36)) = w42 at n0_ n1_ n2_ n3_ ⊢
    have BK385:=n0_
    have BK389:=n1_
    have BK390:=n2_
    have HB:=n3_
    clear n0_ n1_ n2_ n3_
    have n0_:=Aside0.mk (blk_drew BK385.out)
    have n1_:=Aside0.mk (blk_drew BK389.out)
    have n2_:=Aside0.mk (blk_drew BK390.out)
    have n3_:=Aside0.mk (below_drew1 HB.out)
    clear BK385
    clear BK389
    clear BK390
    clear HB
    have BK385:=n0_
    have BK389:=n1_
    have BK390:=n2_
    have HB:=n3_
    clear n0_ n1_ n2_ n3_
    refine start_ (n:=8) (S:=fun w'=>w'.cell? ⟨gb390,0,none⟩ = some (.int .i64 x391000_1) ∧ w'.cell? ⟨gb390,1,none⟩ = some (.int .i64 ji36) ∧ w'.cell? ⟨gb390,2,none⟩ = some (.int .i64 x391002_1) ∧ w'.cell? ⟨gb390,3,none⟩ = some (.int .i64 0) ∧ w'.cell? ⟨gb389,0,none⟩ = some (.int .i64 t386) ∧ w'.cell? ⟨gb389,1,none⟩ = some (.string t387)) (ds:=[7]) #[false,false,false,false,false,false,false,false] (by kernel_rfl) rfl rfl ⟨(blk_cell BK390.out 0).trans rfl,(blk_cell BK390.out 1).trans rfl,(blk_cell BK390.out 2).trans rfl,(blk_cell BK390.out 3).trans rfl,(blk_cell BK389.out 0).trans rfl,(blk_cell BK389.out 1).trans rfl⟩ (fun hHeld=>?_);refine with_tabW card_Measures.tab12 card_Measures.bits12 (fun HT_ HW_=>?_)
    generalize w42.drew = w43 at BK385 BK389 BK390 HB hHeld ⊢
    refine pure_ (i:=0) (N:=some 42) (v:=?_) (a':=?_) #[true,false,false,false,false,false,false,false] rfl rfl (any_of HT_.out (by kernel_rfl)) (fun _ _ _ h=>h) (Or.inl ⟨by rfl,?_⟩) ?_ ?_
    rotate_left
    ·intro w'
     go_simp
     with_reducible rfl
    rotate_left
    ·simp only [Act.put,List.setIfInBounds_toArray,List.set_cons_zero,List.set_cons_succ,i64_w,i32_w]
     rfl
    refine pure_ (i:=3) (N:=some 45) (v:=?_) (a':=?_) #[true,false,false,true,false,false,false,false] rfl rfl (any_of HT_.out (by kernel_rfl)) (fun _ _ _ h=>h) (Or.inl ⟨by rfl,?_⟩) ?_ ?_
    rotate_left
    ·intro w'
     go_simp
     with_reducible rfl
    rotate_left
    ·simp only [Act.put,List.setIfInBounds_toArray,List.set_cons_zero,List.set_cons_succ,i64_w,i32_w]
     rfl
    refine take_ (i:=1) (N:=some 43) (v:=?_) (a':=?_) #[true,true,false,true,false,false,false,false] rfl rfl (take_ofW HT_.out HW_.out (by kernel_rfl)) (fun _ _ _ h=>h) (Or.inl ⟨by rfl,?_⟩) hHeld ?_ ?_
    rotate_left
    ·rintro w' ⟨s0,s1,s2,s3,s4,s5⟩
     go_simp
     with_reducible rfl
    rotate_left
    ·simp only [Act.put,List.setIfInBounds_toArray,List.set_cons_zero,List.set_cons_succ,i64_w,i32_w]
     rfl
    refine take_ (i:=2) (N:=some 44) (v:=?_) (a':=?_) #[true,true,true,true,false,false,false,false] rfl rfl (take_ofW HT_.out HW_.out (by kernel_rfl)) (fun _ _ _ h=>h) (Or.inl ⟨by rfl,?_⟩) hHeld ?_ ?_
    rotate_left
    ·rintro w' ⟨s0,s1,s2,s3,s4,s5⟩
     go_simp
     with_reducible rfl
    rotate_left
    ·simp only [Act.put,List.setIfInBounds_toArray,List.set_cons_zero,List.set_cons_succ,i64_w,i32_w]
     rfl
    refine one_ (i:=4) (N:=some 46) #[true,true,true,true,true,false,false,false] rfl rfl (one_of HT_.out (by kernel_rfl)) (by decide) (fun K hK=>?_)
    refine goes_ Try.func86 (by kernel_rfl) rfl #[.agg #[.int .i64 t386,.string t387],.int .i64 x21_1] (by rfl) rfl rfl (by (try simp only [List.map_toArray,List.map_cons,List.map_nil]);first | done | rfl | (simp only [List.length_drop,List.length_take];rfl)) ?_
    with_reducible refine (card_function_certificate.calls k1 t386 t387 x21_1 t399 _ A37.out).mono ?_
    rintro e w44 ⟨rfl,hb⟩
    refine ⟨_,rfl,?_⟩
    have n0_:=Aside0.mk (blk_below (g:=gb385) (o:=.cells #[.int .i64 0,.int .i64 0,.int .i64 0,.int .i64 0] 65 (0,0)) (by (with_reducible repeat (first | refine blk_drewN ?_ _ | refine blk_drew ?_ | refine blk_alloc ?_ _));exact BK385.out) hb)
    have n1_:=Aside0.mk (blk_below (g:=gb389) (o:=.cells #[.int .i64 t386,.string t387] 81 (0,0)) (by (with_reducible repeat (first | refine blk_drewN ?_ _ | refine blk_drew ?_ | refine blk_alloc ?_ _));exact BK389.out) hb)
    have n2_:=Aside0.mk (blk_below (g:=gb390) (o:=.cells #[.int .i64 x391000_1,.int .i64 ji36,.int .i64 x391002_1,.int .i64 0] 65 (0,0)) (by (with_reducible repeat (first | refine blk_drewN ?_ _ | refine blk_drew ?_ | refine blk_alloc ?_ _));exact BK390.out) hb)
    have n3_:=Aside0.mk (below_step (by repeat (first | (with_reducible first | exact HB.out | apply below_alloc | apply pw_below_drewN | apply below_drew1 | refine below_set ?_ GE385.out | refine below_set ?_ GE389.out | refine below_set ?_ GE390.out) | exact HB.out)) hb)
    clear BK385
    clear BK389
    clear BK390
    clear HB
    have BK385:=n0_
    have BK389:=n1_
    have BK390:=n2_
    have HB:=n3_
    clear n0_ n1_ n2_ n3_
    (try clear hb)
    refine hK.out _ _ ⟨(blk_cell BK390.out 0).trans rfl,(blk_cell BK390.out 1).trans rfl,(blk_cell BK390.out 2).trans rfl,(blk_cell BK390.out 3).trans rfl,(blk_cell BK389.out 0).trans rfl,(blk_cell BK389.out 1).trans rfl⟩ (fun hHeld=>?_)
    clear hK K
    refine norm_ (a':=?_) ?_ ?_
    rotate_left
    ·show Act.put _ (some 46) _ = _
     simp only [Act.put,List.setIfInBounds_toArray,List.set_cons_zero,List.set_cons_succ,i64_w,i32_w]
     rfl
    refine pure_ (i:=5) (N:=some 47) (v:=?_) (a':=?_) #[true,true,true,true,true,true,false,false] rfl rfl (any_of HT_.out (by kernel_rfl)) (fun _ _ _ h=>h) (Or.inl ⟨by rfl,?_⟩) ?_ ?_
    rotate_left
    ·intro w'
     go_simp
     with_reducible rfl
    rotate_left
    ·simp only [Act.put,List.setIfInBounds_toArray,List.set_cons_zero,List.set_cons_succ,i64_w,i32_w]
     rfl
    refine pure_ (i:=6) (N:=some 48) (v:=?_) (a':=?_) #[true,true,true,true,true,true,true,false] rfl rfl (any_of HT_.out (by kernel_rfl)) (fun _ _ _ h=>h) (Or.inl ⟨by rfl,?_⟩) ?_ ?_
    rotate_left
    ·intro w'
     go_simp
     with_reducible rfl
    rotate_left
    ·simp only [Act.put,List.setIfInBounds_toArray,List.set_cons_zero,List.set_cons_succ,i64_w,i32_w]
     rfl
    refine last_ (i:=7) (N:=none) #[true,true,true,true,true,true,true,true] rfl rfl (one_of HT_.out (by kernel_rfl)) (by decide) (fun K hK=>?_)
    have hs45:w44.cell? ⟨gb390,2,none⟩ = some (.int .i64 x391002_1):=(blk_cell BK390.out 2).trans rfl
    have hfs45:=blk_frozen BK390.out 2
    have hns45_0:=NB385_390.out
    have hns45_1:=NB389_390.out
    have hms45_0:=NB390_385.out
    have hms45_1:=NB390_389.out
    refine skip_ (w1:=?_) (by rfl) rfl ?_ ?_
    rotate_left
    ·go_simp
     rfl
    refine hK.out _ _ ?_
    clear hK K
    refine done_ (done_of HT_.out (by kernel_rfl)) ?_
    try go_wp2
    (try simp only [setCell_drewN])
    go_roundg k1
    case measure=>have:=HK1.out;omega
    case rel=>exact ⟨(wrap64 (x21_1 + 1)),(x391000_1),(ji36),(ji38),(by first | rfl | (simp;done) | (simp [*];done)),H',⟨by have:=HK1.out;omega⟩,⟨by (with_reducible repeat (first | refine blk_drewN ?_ _ | refine blk_drew ?_ | refine blk_alloc ?_ _));refine blk_far ?_ NB385_390.out _;(with_reducible repeat (first | refine blk_drewN ?_ _ | refine blk_drew ?_ | refine blk_alloc ?_ _));exact BK385.out⟩,⟨by (with_reducible repeat (first | refine blk_drewN ?_ _ | refine blk_drew ?_ | refine blk_alloc ?_ _));refine blk_far ?_ NB389_390.out _;(with_reducible repeat (first | refine blk_drewN ?_ _ | refine blk_drew ?_ | refine blk_alloc ?_ _));exact BK389.out⟩,⟨by (with_reducible repeat (first | refine blk_drewN ?_ _ | refine blk_drew ?_ | refine blk_alloc ?_ _));refine blk_put (cs:=#[.int .i64 x391000_1,.int .i64 ji36,.int .i64 x391002_1,.int .i64 0]) ?_ 2 _ rfl;(with_reducible repeat (first | refine blk_drewN ?_ _ | refine blk_drew ?_ | refine blk_alloc ?_ _));exact BK390.out⟩,⟨by repeat (first | (with_reducible first | exact HB.out | apply below_alloc | apply pw_below_drewN | apply below_drew1 | refine below_set ?_ GE385.out | refine below_set ?_ GE389.out | refine below_set ?_ GE390.out) | exact HB.out)⟩⟩
   rw [if_pos c18] at H
   have c18b0:((bt t391 x21_1) == 49) = true:=beq_iff_eq.mpr c18
   have c18b1:((bt t391 x21_1) != 49) = false:=bne_eq_false_iff_eq.mpr c18
   clear c18
   replace H:=Option.bind_eq_some_iff.mp H
   obtain ⟨t395,A190,H⟩:=H
   replace H:((card_function_sensitivity.f k1 t386 t387 x21_1).bind fun t396=>((card_function_certificate.f k1 t386 t387 x21_1).bind fun t397=>(card_Measures.l0 k1 t391 (a0.size:Int) (wrap64 (x21_1 + 1)) t386 t387 (mx x391000_1 t395) (mx x391001_1 t396) (mx x391002_1 t397) 0))) = some (r1,r2,r3,r4,r5):=H
   have A19:=Aside0.mk A190
   clear A190
   obtain ⟨ji20,hji20⟩:∃ j_:Int,(mx x391000_1 t395) = j_:=⟨_,rfl⟩
   replace H:((card_function_sensitivity.f k1 t386 t387 x21_1).bind fun t396=>((card_function_certificate.f k1 t386 t387 x21_1).bind fun t397=>(card_Measures.l0 k1 t391 (a0.size:Int) (wrap64 (x21_1 + 1)) t386 t387 ji20 (mx x391001_1 t396) (mx x391002_1 t397) 0))) = some (r1,r2,r3,r4,r5):=by first | (rw [hji20] at H;exact H) | (simp only [hji20] at H ⊢;exact H)
   (try rw [hji20] at A19)
   have hji20_:(if x391000_1 < t395 then t395 else x391000_1) = ji20:=hji20
   replace H:=Option.bind_eq_some_iff.mp H
   obtain ⟨t396,A210,H⟩:=H
   replace H:((card_function_certificate.f k1 t386 t387 x21_1).bind fun t397=>(card_Measures.l0 k1 t391 (a0.size:Int) (wrap64 (x21_1 + 1)) t386 t387 ji20 (mx x391001_1 t396) (mx x391002_1 t397) 0)) = some (r1,r2,r3,r4,r5):=H
   have A21:=Aside0.mk A210
   clear A210
   obtain ⟨ji22,hji22⟩:∃ j_:Int,(mx x391001_1 t396) = j_:=⟨_,rfl⟩
   replace H:((card_function_certificate.f k1 t386 t387 x21_1).bind fun t397=>(card_Measures.l0 k1 t391 (a0.size:Int) (wrap64 (x21_1 + 1)) t386 t387 ji20 ji22 (mx x391002_1 t397) 0)) = some (r1,r2,r3,r4,r5):=by first | (rw [hji22] at H;exact H) | (simp only [hji22] at H ⊢;exact H)
   (try rw [hji22] at A19)
   (try rw [hji22] at A21)
   have hji22_:(if x391001_1 < t396 then t396 else x391001_1) = ji22:=hji22
   replace H:=Option.bind_eq_some_iff.mp H
   obtain ⟨t397,A230,H⟩:=H
   replace H:(card_Measures.l0 k1 t391 (a0.size:Int) (wrap64 (x21_1 + 1)) t386 t387 ji20 ji22 (mx x391002_1 t397) 0) = some (r1,r2,r3,r4,r5):=H
   have A23:=Aside0.mk A230
   clear A230
   obtain ⟨ji24,hji24⟩:∃ j_:Int,(mx x391002_1 t397) = j_:=⟨_,rfl⟩
   replace H:(card_Measures.l0 k1 t391 (a0.size:Int) (wrap64 (x21_1 + 1)) t386 t387 ji20 ji22 ji24 0) = some (r1,r2,r3,r4,r5):=by first | (rw [hji24] at H;exact H) | (simp only [hji24] at H ⊢;exact H)
   (try rw [hji24] at A19)
   (try rw [hji24] at A21)
   (try rw [hji24] at A23)
   have hji24_:(if x391002_1 < t397 then t397 else x391002_1) = ji24:=hji24
   have H':=Aside0.mk H
   clear H
   have p17:0 ≤ (x21_1:Int):=of_decide_eq_true (by first | (with_reducible assumption) | assumption)
   have q17:x21_1 < (t391.size:Int):=of_decide_eq_true (by first | (with_reducible assumption) | assumption)
   have hx17:=bt_at t391 x21_1
   replace p17:=eq_true p17
   replace q17:=eq_true q17
   try go_wp2
   (try simp only [setCell_drewN])
   have n0_:=Aside0.mk (blk_drew BK385.out)
   have n1_:=Aside0.mk (blk_drew BK389.out)
   have n2_:=Aside0.mk (blk_drew BK390.out)
   have n3_:=Aside0.mk (below_drew1 HB.out)
   clear BK385
   clear BK389
   clear BK390
   clear HB
   have BK385:=n0_
   have BK389:=n1_
   have BK390:=n2_
   have HB:=n3_
   clear n0_ n1_ n2_ n3_
   refine start_ (n:=8) (S:=fun w'=>w'.cell? ⟨gb390,0,none⟩ = some (.int .i64 x391000_1) ∧ w'.cell? ⟨gb390,1,none⟩ = some (.int .i64 x391001_1) ∧ w'.cell? ⟨gb390,2,none⟩ = some (.int .i64 x391002_1) ∧ w'.cell? ⟨gb390,3,none⟩ = some (.int .i64 0)) (ds:=[7]) #[false,false,false,false,false,false,false,false] (by kernel_rfl) rfl rfl ⟨(blk_cell BK390.out 0).trans rfl,(blk_cell BK390.out 1).trans rfl,(blk_cell BK390.out 2).trans rfl,(blk_cell BK390.out 3).trans rfl⟩ (fun hHeld=>?_);refine with_tabW card_Measures.tab10 card_Measures.bits10 (fun HT_ HW_=>?_)
   generalize wr.drew = w25 at BK385 BK389 BK390 HB hHeld ⊢
   refine pure_ (i:=0) (N:=some 28) (v:=?_) (a':=?_) #[true,false,false,false,false,false,false,false] rfl rfl (any_of HT_.out (by kernel_rfl)) (fun _ _ _ h=>h) (Or.inl ⟨by rfl,?_⟩) ?_ ?_
   rotate_left
   ·intro w'
    go_simp
    with_reducible rfl
   rotate_left
   ·simp only [Act.put,List.setIfInBounds_toArray,List.set_cons_zero,List.set_cons_succ,i64_w,i32_w]
    rfl
   refine pure_ (i:=2) (N:=some 30) (v:=?_) (a':=?_) #[true,false,true,false,false,false,false,false] rfl rfl (any_of HT_.out (by kernel_rfl)) (fun _ _ _ h=>h) (Or.inl ⟨by rfl,?_⟩) ?_ ?_
   rotate_left
   ·intro w'
    go_simp
    with_reducible rfl
   rotate_left
   ·simp only [Act.put,List.setIfInBounds_toArray,List.set_cons_zero,List.set_cons_succ,i64_w,i32_w]
    rfl
   refine pure_ (i:=3) (N:=some 31) (v:=?_) (a':=?_) #[true,false,true,true,false,false,false,false] rfl rfl (any_of HT_.out (by kernel_rfl)) (fun _ _ _ h=>h) (Or.inl ⟨by rfl,?_⟩) ?_ ?_
   rotate_left
   ·intro w'
    go_simp
    with_reducible rfl
   rotate_left
   ·simp only [Act.put,List.setIfInBounds_toArray,List.set_cons_zero,List.set_cons_succ,i64_w,i32_w]
    rfl
   refine take_ (i:=1) (N:=some 29) (v:=?_) (a':=?_) #[true,true,true,true,false,false,false,false] rfl rfl (take_ofW HT_.out HW_.out (by kernel_rfl)) (fun _ _ _ h=>h) (Or.inl ⟨by rfl,?_⟩) hHeld ?_ ?_
   rotate_left
   ·rintro w' ⟨s0,s1,s2,s3⟩
    go_simp
    with_reducible rfl
   rotate_left
   ·simp only [Act.put,List.setIfInBounds_toArray,List.set_cons_zero,List.set_cons_succ,i64_w,i32_w]
    rfl
   refine one_ (i:=4) (N:=some 32) #[true,true,true,true,true,false,false,false] rfl rfl (one_of HT_.out (by kernel_rfl)) (by decide) (fun K hK=>?_)
   refine goes_ Try.func84 (by kernel_rfl) rfl #[.int .u64 (IntKind.u64.wrap (x21_1))] (by rfl) rfl rfl (by (try simp only [List.map_toArray,List.map_cons,List.map_nil]);first | done | rfl | (simp only [List.length_drop,List.length_take];rfl)) ?_
   with_reducible refine (bits_OnesCount.calls (IntKind.u64.wrap (x21_1)) t395 _ A19.out).mono ?_
   rintro e w' ⟨rfl,⟨nd,rfl⟩⟩
   refine ⟨_,rfl,?_⟩
   refine hK.out _ _ ⟨(blk_cell BK390.out 0).trans rfl,(blk_cell BK390.out 1).trans rfl,(blk_cell BK390.out 2).trans rfl,(blk_cell BK390.out 3).trans rfl⟩ (fun hHeld=>?_)
   clear hK K
   refine norm_ (a':=?_) ?_ ?_
   rotate_left
   ·show Act.put _ (some 32) _ = _
    simp only [Act.put,List.setIfInBounds_toArray,List.set_cons_zero,List.set_cons_succ,i64_w,i32_w]
    rfl
   refine pure_ (i:=5) (N:=some 33) (v:=?_) (a':=?_) #[true,true,true,true,true,true,false,false] rfl rfl (any_of HT_.out (by kernel_rfl)) (fun _ _ _ h=>h) (Or.inl ⟨by rfl,?_⟩) ?_ ?_
   rotate_left
   ·intro w'
    go_simp
    with_reducible rfl
   rotate_left
   ·simp only [Act.put,List.setIfInBounds_toArray,List.set_cons_zero,List.set_cons_succ,i64_w,i32_w]
    rfl
   refine pure_ (i:=6) (N:=some 34) (v:=?_) (a':=?_) #[true,true,true,true,true,true,true,false] rfl rfl (any_of HT_.out (by kernel_rfl)) (fun _ _ _ h=>h) (Or.inl ⟨by rfl,?_⟩) ?_ ?_
   rotate_left
   ·intro w'
    go_simp
    with_reducible rfl
   rotate_left
   ·simp only [Act.put,List.setIfInBounds_toArray,List.set_cons_zero,List.set_cons_succ,i64_w,i32_w]
    rfl
   refine last_ (i:=7) (N:=none) #[true,true,true,true,true,true,true,true] rfl rfl (one_of HT_.out (by kernel_rfl)) (by decide) (fun K hK=>?_)
   have hs26:w25.cell? ⟨gb390,0,none⟩ = some (.int .i64 x391000_1):=(blk_cell BK390.out 0).trans rfl
   have hfs26:=blk_frozen BK390.out 0
   have hns26_0:=NB385_390.out
   have hns26_1:=NB389_390.out
   have hms26_0:=NB390_385.out
   have hms26_1:=NB390_389.out
   refine skip_ (w1:=?_) (by rfl) rfl ?_ ?_
   rotate_left
   ·go_simp
    rfl
   refine hK.out _ _ ?_
   clear hK K
   refine done_ (done_of HT_.out (by kernel_rfl)) ?_
   try go_wp2
   (try simp only [setCell_drewN])
   have n0_:Aside0 ((w25.setCell ⟨gb390,0,none⟩ (.int .i64 ji20)).heap[gb385]? = some (.cells #[.int .i64 0,.int .i64 0,.int .i64 0,.int .i64 0] 65 (0,0))):=⟨by (with_reducible repeat (first | refine blk_drewN ?_ _ | refine blk_drew ?_ | refine blk_alloc ?_ _));refine blk_far ?_ NB385_390.out _;(with_reducible repeat (first | refine blk_drewN ?_ _ | refine blk_drew ?_ | refine blk_alloc ?_ _));exact BK385.out⟩
   have n1_:Aside0 ((w25.setCell ⟨gb390,0,none⟩ (.int .i64 ji20)).heap[gb389]? = some (.cells #[.int .i64 t386,.string t387] 81 (0,0))):=⟨by (with_reducible repeat (first | refine blk_drewN ?_ _ | refine blk_drew ?_ | refine blk_alloc ?_ _));refine blk_far ?_ NB389_390.out _;(with_reducible repeat (first | refine blk_drewN ?_ _ | refine blk_drew ?_ | refine blk_alloc ?_ _));exact BK389.out⟩
   have n2_:Aside0 ((w25.setCell ⟨gb390,0,none⟩ (.int .i64 ji20)).heap[gb390]? = some (.cells #[.int .i64 ji20,.int .i64 x391001_1,.int .i64 x391002_1,.int .i64 0] 65 (0,0))):=⟨by (with_reducible repeat (first | refine blk_drewN ?_ _ | refine blk_drew ?_ | refine blk_alloc ?_ _));refine blk_put (cs:=#[.int .i64 x391000_1,.int .i64 x391001_1,.int .i64 x391002_1,.int .i64 0]) ?_ 0 _ rfl;(with_reducible repeat (first | refine blk_drewN ?_ _ | refine blk_drew ?_ | refine blk_alloc ?_ _));exact BK390.out⟩
   have n3_:Aside0 (Below w.heap.size w (w25.setCell ⟨gb390,0,none⟩ (.int .i64 ji20))):=⟨by repeat (first | (with_reducible first | exact HB.out | apply below_alloc | apply pw_below_drewN | apply below_drew1 | refine below_set ?_ GE385.out | refine below_set ?_ GE389.out | refine below_set ?_ GE390.out) | exact HB.out)⟩
   (try clear BK385)
   (try clear BK389)
   (try clear BK390)
   (try clear HB)
   generalize (w25.setCell ⟨gb390,0,none⟩ (.int .i64 ji20)) = w27 at n0_ n1_ n2_ n3_ ⊢
   have BK385:=n0_
   have BK389:=n1_
   have BK390:=n2_
   have HB:=n3_
   clear n0_ n1_ n2_ n3_
   (try (rw [drewN_self w27];generalize hq_:World.drewN w27 _ = w27;have n0_:Aside0 (w27.heap[gb385]? = some (.cells #[.int .i64 0,.int .i64 0,.int .i64 0,.int .i64 0] 65 (0,0))):=⟨by rw [← hq_];exact (by (with_reducible repeat (first | refine blk_drewN ?_ _ | refine blk_drew ?_ | refine blk_alloc ?_ _));exact BK385.out)⟩;have n1_:Aside0 (w27.heap[gb389]? = some (.cells #[.int .i64 t386,.string t387] 81 (0,0))):=⟨by rw [← hq_];exact (by (with_reducible repeat (first | refine blk_drewN ?_ _ | refine blk_drew ?_ | refine blk_alloc ?_ _));exact BK389.out)⟩;have n2_:Aside0 (w27.heap[gb390]? = some (.cells #[.int .i64 ji20,.int .i64 x391001_1,.int .i64 x391002_1,.int .i64 0] 65 (0,0))):=⟨by rw [← hq_];exact (by (with_reducible repeat (first | refine blk_drewN ?_ _ | refine blk_drew ?_ | refine blk_alloc ?_ _));exact BK390.out)⟩;have n3_:Aside0 (Below w.heap.size w w27):=⟨by rw [← hq_];exact (by repeat (first | (with_reducible first | exact HB.out | apply below_alloc | apply pw_below_drewN | apply below_drew1 | refine below_set ?_ GE385.out | refine below_set ?_ GE389.out | refine below_set ?_ GE390.out) | exact HB.out))⟩;clear BK385 BK389 BK390 HB hq_;have BK385:=n0_;have BK389:=n1_;have BK390:=n2_;have HB:=n3_;clear n0_ n1_ n2_ n3_))
   have n0_:=Aside0.mk (blk_drew BK385.out)
   have n1_:=Aside0.mk (blk_drew BK389.out)
   have n2_:=Aside0.mk (blk_drew BK390.out)
   have n3_:=Aside0.mk (below_drew1 HB.out)
   clear BK385
   clear BK389
   clear BK390
   clear HB
   have BK385:=n0_
   have BK389:=n1_
   have BK390:=n2_
   have HB:=n3_
   clear n0_ n1_ n2_ n3_
   refine start_ (n:=8) (S:=fun w'=>w'.cell? ⟨gb390,0,none⟩ = some (.int .i64 ji20) ∧ w'.cell? ⟨gb390,1,none⟩ = some (.int .i64 x391001_1) ∧ w'.cell? ⟨gb390,2,none⟩ = some (.int .i64 x391002_1) ∧ w'.cell? ⟨gb390,3,none⟩ = some (.int .i64 0) ∧ w'.cell? ⟨gb389,0,none⟩ = some (.int .i64 t386) ∧ w'.cell? ⟨gb389,1,none⟩ = some (.string t387)) (ds:=[7]) #[false,false,false,false,false,false,false,false] (by kernel_rfl) rfl rfl ⟨(blk_cell BK390.out 0).trans rfl,(blk_cell BK390.out 1).trans rfl,(blk_cell BK390.out 2).trans rfl,(blk_cell BK390.out 3).trans rfl,(blk_cell BK389.out 0).trans rfl,(blk_cell BK389.out 1).trans rfl⟩ (fun hHeld=>?_);refine with_tabW card_Measures.tab11 card_Measures.bits11 (fun HT_ HW_=>?_)
   generalize w27.drew = w28 at BK385 BK389 BK390 HB hHeld ⊢
   refine pure_ (i:=0) (N:=some 35) (v:=?_) (a':=?_) #[true,false,false,false,false,false,false,false] rfl rfl (any_of HT_.out (by kernel_rfl)) (fun _ _ _ h=>h) (Or.inl ⟨by rfl,?_⟩) ?_ ?_
   rotate_left
   ·intro w'
    go_simp
    with_reducible rfl
   rotate_left
   ·simp only [Act.put,List.setIfInBounds_toArray,List.set_cons_zero,List.set_cons_succ,i64_w,i32_w]
    rfl
   refine pure_ (i:=3) (N:=some 38) (v:=?_) (a':=?_) #[true,false,false,true,false,false,false,false] rfl rfl (any_of HT_.out (by kernel_rfl)) (fun _ _ _ h=>h) (Or.inl ⟨by rfl,?_⟩) ?_ ?_
   rotate_left
   ·intro w'
    go_simp
    with_reducible rfl
   rotate_left
   ·simp only [Act.put,List.setIfInBounds_toArray,List.set_cons_zero,List.set_cons_succ,i64_w,i32_w]
    rfl
   refine take_ (i:=1) (N:=some 36) (v:=?_) (a':=?_) #[true,true,false,true,false,false,false,false] rfl rfl (take_ofW HT_.out HW_.out (by kernel_rfl)) (fun _ _ _ h=>h) (Or.inl ⟨by rfl,?_⟩) hHeld ?_ ?_
   rotate_left
   ·rintro w' ⟨s0,s1,s2,s3,s4,s5⟩
    go_simp
    with_reducible rfl
   rotate_left
   ·simp only [Act.put,List.setIfInBounds_toArray,List.set_cons_zero,List.set_cons_succ,i64_w,i32_w]
    rfl
   refine take_ (i:=2) (N:=some 37) (v:=?_) (a':=?_) #[true,true,true,true,false,false,false,false] rfl rfl (take_ofW HT_.out HW_.out (by kernel_rfl)) (fun _ _ _ h=>h) (Or.inl ⟨by rfl,?_⟩) hHeld ?_ ?_
   rotate_left
   ·rintro w' ⟨s0,s1,s2,s3,s4,s5⟩
    go_simp
    with_reducible rfl
   rotate_left
   ·simp only [Act.put,List.setIfInBounds_toArray,List.set_cons_zero,List.set_cons_succ,i64_w,i32_w]
    rfl
   refine one_ (i:=4) (N:=some 39) #[true,true,true,true,true,false,false,false] rfl rfl (one_of HT_.out (by kernel_rfl)) (by decide) (fun K hK=>?_)
   refine goes_ Try.func85 (by kernel_rfl) rfl #[.agg #[.int .i64 t386,.string t387],.int .i64 x21_1] (by rfl) rfl rfl (by (try simp only [List.map_toArray,List.map_cons,List.map_nil]);first | done | rfl | (simp only [List.length_drop,List.length_take];rfl)) ?_
   with_reducible refine (card_function_sensitivity.calls k1 t386 t387 x21_1 t396 _ A21.out).mono ?_
   rintro e w29 ⟨rfl,hb⟩
   refine ⟨_,rfl,?_⟩
   have n0_:=Aside0.mk (blk_below (g:=gb385) (o:=.cells #[.int .i64 0,.int .i64 0,.int .i64 0,.int .i64 0] 65 (0,0)) (by (with_reducible repeat (first | refine blk_drewN ?_ _ | refine blk_drew ?_ | refine blk_alloc ?_ _));exact BK385.out) hb)
   have n1_:=Aside0.mk (blk_below (g:=gb389) (o:=.cells #[.int .i64 t386,.string t387] 81 (0,0)) (by (with_reducible repeat (first | refine blk_drewN ?_ _ | refine blk_drew ?_ | refine blk_alloc ?_ _));exact BK389.out) hb)
   have n2_:=Aside0.mk (blk_below (g:=gb390) (o:=.cells #[.int .i64 ji20,.int .i64 x391001_1,.int .i64 x391002_1,.int .i64 0] 65 (0,0)) (by (with_reducible repeat (first | refine blk_drewN ?_ _ | refine blk_drew ?_ | refine blk_alloc ?_ _));exact BK390.out) hb)
   have n3_:=Aside0.mk (below_step (by repeat (first | (with_reducible first | exact HB.out | apply below_alloc | apply pw_below_drewN | apply below_drew1 | refine below_set ?_ GE385.out | refine below_set ?_ GE389.out | refine below_set ?_ GE390.out) | exact HB.out)) hb)
   clear BK385
   clear BK389
   clear BK390
   clear HB
   have BK385:=n0_
   have BK389:=n1_
   have BK390:=n2_
   have HB:=n3_
   clear n0_ n1_ n2_ n3_
   (try clear hb)
   refine hK.out _ _ ⟨(blk_cell BK390.out 0).trans rfl,(blk_cell BK390.out 1).trans rfl,(blk_cell BK390.out 2).trans rfl,(blk_cell BK390.out 3).trans rfl,(blk_cell BK389.out 0).trans rfl,(blk_cell BK389.out 1).trans rfl⟩ (fun hHeld=>?_)
   clear hK K
   refine norm_ (a':=?_) ?_ ?_
   rotate_left
   ·show Act.put _ (some 39) _ = _
    simp only [Act.put,List.setIfInBounds_toArray,List.set_cons_zero,List.set_cons_succ,i64_w,i32_w]
    rfl
   refine pure_ (i:=5) (N:=some 40) (v:=?_) (a':=?_) #[true,true,true,true,true,true,false,false] rfl rfl (any_of HT_.out (by kernel_rfl)) (fun _ _ _ h=>h) (Or.inl ⟨by rfl,?_⟩) ?_ ?_
   rotate_left
   ·intro w'
    go_simp
    with_reducible rfl
   rotate_left
   ·simp only [Act.put,List.setIfInBounds_toArray,List.set_cons_zero,List.set_cons_succ,i64_w,i32_w]
    rfl
   refine pure_ (i:=6) (N:=some 41) (v:=?_) (a':=?_) #[true,true,true,true,true,true,true,false] rfl rfl (any_of HT_.out (by kernel_rfl)) (fun _ _ _ h=>h) (Or.inl ⟨by rfl,?_⟩) ?_ ?_
   rotate_left
   ·intro w'
    go_simp
    with_reducible rfl
   rotate_left
   ·simp only [Act.put,List.setIfInBounds_toArray,List.set_cons_zero,List.set_cons_succ,i64_w,i32_w]
    rfl
   refine last_ (i:=7) (N:=none) #[true,true,true,true,true,true,true,true] rfl rfl (one_of HT_.out (by kernel_rfl)) (by decide) (fun K hK=>?_)
   have hs30:w29.cell? ⟨gb390,1,none⟩ = some (.int .i64 x391001_1):=(blk_cell BK390.out 1).trans rfl
   have hfs30:=blk_frozen BK390.out 1
   have hns30_0:=NB385_390.out
   have hns30_1:=NB389_390.out
   have hms30_0:=NB390_385.out
   have hms30_1:=NB390_389.out
   refine skip_ (w1:=?_) (by rfl) rfl ?_ ?_
   rotate_left
   ·go_simp
    rfl
   refine hK.out _ _ ?_
   clear hK K
   refine done_ (done_of HT_.out (by kernel_rfl)) ?_
   try go_wp2
   (try simp only [setCell_drewN])
   have n0_:Aside0 ((w29.setCell ⟨gb390,1,none⟩ (.int .i64 ji22)).heap[gb385]? = some (.cells #[.int .i64 0,.int .i64 0,.int .i64 0,.int .i64 0] 65 (0,0))):=⟨by (with_reducible repeat (first | refine blk_drewN ?_ _ | refine blk_drew ?_ | refine blk_alloc ?_ _));refine blk_far ?_ NB385_390.out _;(with_reducible repeat (first | refine blk_drewN ?_ _ | refine blk_drew ?_ | refine blk_alloc ?_ _));exact BK385.out⟩
   have n1_:Aside0 ((w29.setCell ⟨gb390,1,none⟩ (.int .i64 ji22)).heap[gb389]? = some (.cells #[.int .i64 t386,.string t387] 81 (0,0))):=⟨by (with_reducible repeat (first | refine blk_drewN ?_ _ | refine blk_drew ?_ | refine blk_alloc ?_ _));refine blk_far ?_ NB389_390.out _;(with_reducible repeat (first | refine blk_drewN ?_ _ | refine blk_drew ?_ | refine blk_alloc ?_ _));exact BK389.out⟩
   have n2_:Aside0 ((w29.setCell ⟨gb390,1,none⟩ (.int .i64 ji22)).heap[gb390]? = some (.cells #[.int .i64 ji20,.int .i64 ji22,.int .i64 x391002_1,.int .i64 0] 65 (0,0))):=⟨by (with_reducible repeat (first | refine blk_drewN ?_ _ | refine blk_drew ?_ | refine blk_alloc ?_ _));refine blk_put (cs:=#[.int .i64 ji20,.int .i64 x391001_1,.int .i64 x391002_1,.int .i64 0]) ?_ 1 _ rfl;(with_reducible repeat (first | refine blk_drewN ?_ _ | refine blk_drew ?_ | refine blk_alloc ?_ _));exact BK390.out⟩
   have n3_:Aside0 (Below w.heap.size w (w29.setCell ⟨gb390,1,none⟩ (.int .i64 ji22))):=⟨by repeat (first | (with_reducible first | exact HB.out | apply below_alloc | apply pw_below_drewN | apply below_drew1 | refine below_set ?_ GE385.out | refine below_set ?_ GE389.out | refine below_set ?_ GE390.out) | exact HB.out)⟩
   (try clear BK385)
   (try clear BK389)
   (try clear BK390)
   (try clear HB)
   generalize (w29.setCell ⟨gb390,1,none⟩ (.int .i64 ji22)) = w31 at n0_ n1_ n2_ n3_ ⊢
   have BK385:=n0_
   have BK389:=n1_
   have BK390:=n2_
   have HB:=n3_
   clear n0_ n1_ n2_ n3_
   have n0_:=Aside0.mk (blk_drew BK385.out)
   have n1_:=Aside0.mk (blk_drew BK389.out)
   have n2_:=Aside0.mk (blk_drew BK390.out)
   have n3_:=Aside0.mk (below_drew1 HB.out)
   clear BK385
   clear BK389
   clear BK390
   clear HB
   have BK385:=n0_
   have BK389:=n1_
   have BK390:=n2_
   have HB:=n3_
   clear n0_ n1_ n2_ n3_
   refine start_ (n:=8) (S:=fun w'=>w'.cell? ⟨gb390,0,none⟩ = some (.int .i64 ji20) ∧ w'.cell? ⟨gb390,1,none⟩ = some (.int .i64 ji22) ∧ w'.cell? ⟨gb390,2,none⟩ = some (.int .i64 x391002_1) ∧ w'.cell? ⟨gb390,3,none⟩ = some (.int .i64 0) ∧ w'.cell? ⟨gb389,0,none⟩ = some (.int .i64 t386) ∧ w'.cell? ⟨gb389,1,none⟩ = some (.string t387)) (ds:=[7]) #[false,false,false,false,false,false,false,false] (by kernel_rfl) rfl rfl ⟨(blk_cell BK390.out 0).trans rfl,(blk_cell BK390.out 1).trans rfl,(blk_cell BK390.out 2).trans rfl,(blk_cell BK390.out 3).trans rfl,(blk_cell BK389.out 0).trans rfl,(blk_cell BK389.out 1).trans rfl⟩ (fun hHeld=>?_);refine with_tabW card_Measures.tab12 card_Measures.bits12 (fun HT_ HW_=>?_)
   generalize w31.drew = w32 at BK385 BK389 BK390 HB hHeld ⊢
   refine pure_ (i:=0) (N:=some 42) (v:=?_) (a':=?_) #[true,false,false,false,false,false,false,false] rfl rfl (any_of HT_.out (by kernel_rfl)) (fun _ _ _ h=>h) (Or.inl ⟨by rfl,?_⟩) ?_ ?_
   rotate_left
   ·intro w'
    go_simp
    with_reducible rfl
   rotate_left
   ·simp only [Act.put,List.setIfInBounds_toArray,List.set_cons_zero,List.set_cons_succ,i64_w,i32_w]
    rfl
   refine pure_ (i:=3) (N:=some 45) (v:=?_) (a':=?_) #[true,false,false,true,false,false,false,false] rfl rfl (any_of HT_.out (by kernel_rfl)) (fun _ _ _ h=>h) (Or.inl ⟨by rfl,?_⟩) ?_ ?_
   rotate_left
   ·intro w'
    go_simp
    with_reducible rfl
   rotate_left
   ·simp only [Act.put,List.setIfInBounds_toArray,List.set_cons_zero,List.set_cons_succ,i64_w,i32_w]
    rfl
   refine take_ (i:=1) (N:=some 43) (v:=?_) (a':=?_) #[true,true,false,true,false,false,false,false] rfl rfl (take_ofW HT_.out HW_.out (by kernel_rfl)) (fun _ _ _ h=>h) (Or.inl ⟨by rfl,?_⟩) hHeld ?_ ?_
   rotate_left
   ·rintro w' ⟨s0,s1,s2,s3,s4,s5⟩
    go_simp
    with_reducible rfl
   rotate_left
   ·simp only [Act.put,List.setIfInBounds_toArray,List.set_cons_zero,List.set_cons_succ,i64_w,i32_w]
    rfl
   refine take_ (i:=2) (N:=some 44) (v:=?_) (a':=?_) #[true,true,true,true,false,false,false,false] rfl rfl (take_ofW HT_.out HW_.out (by kernel_rfl)) (fun _ _ _ h=>h) (Or.inl ⟨by rfl,?_⟩) hHeld ?_ ?_
   rotate_left
   ·rintro w' ⟨s0,s1,s2,s3,s4,s5⟩
    go_simp
    with_reducible rfl
   rotate_left
   ·simp only [Act.put,List.setIfInBounds_toArray,List.set_cons_zero,List.set_cons_succ,i64_w,i32_w]
    rfl
   refine one_ (i:=4) (N:=some 46) #[true,true,true,true,true,false,false,false] rfl rfl (one_of HT_.out (by kernel_rfl)) (by decide) (fun K hK=>?_)
   refine goes_ Try.func86 (by kernel_rfl) rfl #[.agg #[.int .i64 t386,.string t387],.int .i64 x21_1] (by rfl) rfl rfl (by (try simp only [List.map_toArray,List.map_cons,List.map_nil]);first | done | rfl | (simp only [List.length_drop,List.length_take];rfl)) ?_
   with_reducible refine (card_function_certificate.calls k1 t386 t387 x21_1 t397 _ A23.out).mono ?_
   rintro e w33 ⟨rfl,hb⟩
   refine ⟨_,rfl,?_⟩
   have n0_:=Aside0.mk (blk_below (g:=gb385) (o:=.cells #[.int .i64 0,.int .i64 0,.int .i64 0,.int .i64 0] 65 (0,0)) (by (with_reducible repeat (first | refine blk_drewN ?_ _ | refine blk_drew ?_ | refine blk_alloc ?_ _));exact BK385.out) hb)
   have n1_:=Aside0.mk (blk_below (g:=gb389) (o:=.cells #[.int .i64 t386,.string t387] 81 (0,0)) (by (with_reducible repeat (first | refine blk_drewN ?_ _ | refine blk_drew ?_ | refine blk_alloc ?_ _));exact BK389.out) hb)
   have n2_:=Aside0.mk (blk_below (g:=gb390) (o:=.cells #[.int .i64 ji20,.int .i64 ji22,.int .i64 x391002_1,.int .i64 0] 65 (0,0)) (by (with_reducible repeat (first | refine blk_drewN ?_ _ | refine blk_drew ?_ | refine blk_alloc ?_ _));exact BK390.out) hb)
   have n3_:=Aside0.mk (below_step (by repeat (first | (with_reducible first | exact HB.out | apply below_alloc | apply pw_below_drewN | apply below_drew1 | refine below_set ?_ GE385.out | refine below_set ?_ GE389.out | refine below_set ?_ GE390.out) | exact HB.out)) hb)
   clear BK385
   clear BK389
   clear BK390
   clear HB
   have BK385:=n0_
   have BK389:=n1_
   have BK390:=n2_
   have HB:=n3_
   clear n0_ n1_ n2_ n3_
   (try clear hb)
   refine hK.out _ _ ⟨(blk_cell BK390.out 0).trans rfl,(blk_cell BK390.out 1).trans rfl,(blk_cell BK390.out 2).trans rfl,(blk_cell BK390.out 3).trans rfl,(blk_cell BK389.out 0).trans rfl,(blk_cell BK389.out 1).trans rfl⟩ (fun hHeld=>?_)
   clear hK K
   refine norm_ (a':=?_) ?_ ?_
   rotate_left
   ·show Act.put _ (some 46) _ = _
    simp only [Act.put,List.setIfInBounds_toArray,List.set_cons_zero,List.set_cons_succ,i64_w,i32_w]
    rfl
   refine pure_ (i:=5) (N:=some 47) (v:=?_) (a':=?_) #[true,true,true,true,true,true,false,false] rfl rfl (any_of HT_.out (by kernel_rfl)) (fun _ _ _ h=>h) (Or.inl ⟨by rfl,?_⟩) ?_ ?_
   rotate_left
   ·intro w'
    go_simp
    with_reducible rfl
   rotate_left
   ·simp only [Act.put,List.setIfInBounds_toArray,List.set_cons_zero,List.set_cons_succ,i64_w,i32_w]
    rfl
   refine pure_ (i:=6) (N:=some 48) (v:=?_) (a':=?_) #[true,true,true,true,true,true,true,false] rfl rfl (any_of HT_.out (by kernel_rfl)) (fun _ _ _ h=>h) (Or.inl ⟨by rfl,?_⟩) ?_ ?_
   rotate_left
   ·intro w'
    go_simp
    with_reducible rfl
   rotate_left
   ·simp only [Act.put,List.setIfInBounds_toArray,List.set_cons_zero,List.set_cons_succ,i64_w,i32_w]
    rfl
   refine last_ (i:=7) (N:=none) #[true,true,true,true,true,true,true,true] rfl rfl (one_of HT_.out (by kernel_rfl)) (by decide) (fun K hK=>?_)
   have hs34:w33.cell? ⟨gb390,2,none⟩ = some (.int .i64 x391002_1):=(blk_cell BK390.out 2).trans rfl
   have hfs34:=blk_frozen BK390.out 2
   have hns34_0:=NB385_390.out
   have hns34_1:=NB389_390.out
   have hms34_0:=NB390_385.out
   have hms34_1:=NB390_389.out
   refine skip_ (w1:=?_) (by rfl) rfl ?_ ?_
   rotate_left
   ·go_simp
    rfl
   refine hK.out _ _ ?_
   clear hK K
   refine done_ (done_of HT_.out (by kernel_rfl)) ?_
   try go_wp2
   (try simp only [setCell_drewN])
   go_roundg k1
   case measure=>have:=HK1.out;omega
   case rel=>exact ⟨(wrap64 (x21_1 + 1)),(ji20),(ji22),(ji24),(by first | rfl | (simp;done) | (simp [*];done)),H',⟨by have:=HK1.out;omega⟩,⟨by (with_reducible repeat (first | refine blk_drewN ?_ _ | refine blk_drew ?_ | refine blk_alloc ?_ _));refine blk_far ?_ NB385_390.out _;(with_reducible repeat (first | refine blk_drewN ?_ _ | refine blk_drew ?_ | refine blk_alloc ?_ _));exact BK385.out⟩,⟨by (with_reducible repeat (first | refine blk_drewN ?_ _ | refine blk_drew ?_ | refine blk_alloc ?_ _));refine blk_far ?_ NB389_390.out _;(with_reducible repeat (first | refine blk_drewN ?_ _ | refine blk_drew ?_ | refine blk_alloc ?_ _));exact BK389.out⟩,⟨by (with_reducible repeat (first | refine blk_drewN ?_ _ | refine blk_drew ?_ | refine blk_alloc ?_ _));refine blk_put (cs:=#[.int .i64 ji20,.int .i64 ji22,.int .i64 x391002_1,.int .i64 0]) ?_ 2 _ rfl;(with_reducible repeat (first | refine blk_drewN ?_ _ | refine blk_drew ?_ | refine blk_alloc ?_ _));exact BK390.out⟩,⟨by repeat (first | (with_reducible first | exact HB.out | apply below_alloc | apply pw_below_drewN | apply below_drew1 | refine below_set ?_ GE385.out | refine below_set ?_ GE389.out | refine below_set ?_ GE390.out) | exact HB.out)⟩⟩
mutual
def card_Monotone.l0:Nat → ByteArray → Int → Int → Int → ByteArray → Option (Int × Int × Int)
 | 0,_,_,_,_,_=>none
 | k + 1,x0,x17,x18,x439000,x439001=>if x18 < x17 then (card_Monotone.l1 k x0 x18 x17 x18 x439000 0 x439000 x439001) else (some ((-1),(-1),0))
def card_Monotone.l1:Nat → ByteArray → Int → Int → Int → Int → Int → Int → ByteArray → Option (Int × Int × Int)
 | 0,_,_,_,_,_,_,_,_=>none
 | k + 1,x0,x7,x17,x18,x22,x23,x439000,x439001=>if x23 < x22 then (if 0 ≤ x23 then (if (Go.bits .and .i64 (shr .i64 x7 x23) 1) = 0 then (if 0 ≤ x7 then (if x7 < (x0.size:Int) then (if (bt x0 x7) = 49 then (if 0 ≤ (Go.bits .or .i64 x7 (shl .i64 1 x23)) then (if (Go.bits .or .i64 x7 (shl .i64 1 x23)) < (x0.size:Int) then (if (bt x0 (Go.bits .or .i64 x7 (shl .i64 1 x23))) = 48 then (some (x7,x23,0)) else (card_Monotone.l1 k x0 x7 x17 x18 x22 (wrap64 (x23 + 1)) x439000 x439001)) else (none)) else (none)) else (card_Monotone.l1 k x0 x7 x17 x18 x22 (wrap64 (x23 + 1)) x439000 x439001)) else (none)) else (none)) else (card_Monotone.l1 k x0 x7 x17 x18 x22 (wrap64 (x23 + 1)) x439000 x439001)) else (none)) else (card_Monotone.l0 k x0 x17 (wrap64 (x18 + 1)) x439000 x439001)
end
def card_Monotone.f (k:Nat) (a0:ByteArray):Option (Int × Int × Int):=(card_newTotal.f a0).bind fun bt435=>(if bt435.2.2 = true then (card_Monotone.l0 k a0 (a0.size:Int) 0 bt435.1 bt435.2.1) else (some (0,0,2)))
theorem card_Monotone.mono_l:∀ k,(∀ y0 y1 y2 y3 y4,LeO (card_Monotone.l0 k y0 y1 y2 y3 y4) (card_Monotone.l0 (k + 1) y0 y1 y2 y3 y4)) ∧ (∀ y0 y1 y2 y3 y4 y5 y6 y7,LeO (card_Monotone.l1 k y0 y1 y2 y3 y4 y5 y6 y7) (card_Monotone.l1 (k + 1) y0 y1 y2 y3 y4 y5 y6 y7))
 | 0=>⟨fun _ _ _ _ _ r h=>by simp [card_Monotone.l0] at h,fun _ _ _ _ _ _ _ _ r h=>by simp [card_Monotone.l1] at h⟩
 | k + 1=>by
  obtain ⟨ih0,ih1⟩:=card_Monotone.mono_l k
  refine ⟨?_,?_⟩
  ·intro y0 y1 y2 y3 y4
   unfold card_Monotone.l0
   repeat' first
   | (with_reducible exact ih0 _ _ _ _ _)
   | (with_reducible exact ih1 _ _ _ _ _ _ _ _)
   | (with_reducible exact LeO.refl _)
   | (with_reducible exact LeO.none _)
   | (with_reducible refine LeO.ite ?_ ?_)
   | (with_reducible refine LeO.bind ?_ (fun _=>?_))
   | exact ih0 _ _ _ _ _
   | exact ih1 _ _ _ _ _ _ _ _
   | exact LeO.none _
   | refine LeO.ite ?_ ?_
   | refine LeO.bind ?_ (fun _=>?_)
  intro y0 y1 y2 y3 y4 y5 y6 y7
  unfold card_Monotone.l1
  repeat' first
  | (with_reducible exact ih0 _ _ _ _ _)
  | (with_reducible exact ih1 _ _ _ _ _ _ _ _)
  | (with_reducible exact LeO.refl _)
  | (with_reducible exact LeO.none _)
  | (with_reducible refine LeO.ite ?_ ?_)
  | (with_reducible refine LeO.bind ?_ (fun _=>?_))
  | exact ih0 _ _ _ _ _
  | exact ih1 _ _ _ _ _ _ _ _
  | exact LeO.none _
  | refine LeO.ite ?_ ?_
  | refine LeO.bind ?_ (fun _=>?_)
theorem card_Monotone.mono:∀ a0 k,LeO (card_Monotone.f k a0) (card_Monotone.f (k + 1) a0):=by
 intro a0 k
 obtain ⟨ih0,ih1⟩:=card_Monotone.mono_l k
 unfold card_Monotone.f
 repeat' first
   | (with_reducible exact ih0 _ _ _ _ _)
   | (with_reducible exact ih1 _ _ _ _ _ _ _ _)
   | (with_reducible exact LeO.refl _)
   | (with_reducible exact LeO.none _)
   | (with_reducible refine LeO.ite ?_ ?_)
   | (with_reducible refine LeO.bind ?_ (fun _=>?_))
   | exact ih0 _ _ _ _ _
   | exact ih1 _ _ _ _ _ _ _ _
   | exact LeO.none _
   | refine LeO.ite ?_ ?_
   | refine LeO.bind ?_ (fun _=>?_)
theorem card_Monotone.calls (k:Nat) (a0:ByteArray) (r1:Int) (r2:Int) (r3:Int) (w:World) (h:card_Monotone.f k a0 = some (r1,r2,r3)) :
  Calls Try.prog 50 #[.string a0] w fun e w'=>e = .returned (.tuple #[.int .i64 r1,.int .i64 r2,.int .i64 r3]) ∧ Below w.heap.size w w':=by
 have hu81:=Try.underlying81
 have HB:=Aside0.mk (Below.refl w.heap.size w)
 have H:((card_newTotal.f a0).bind fun bt435=>(if bt435.2.2 = true then (card_Monotone.l0 k a0 (a0.size:Int) 0 bt435.1 bt435.2.1) else (some (0,0,2)))) = some (r1,r2,r3):=h
 clear h
 replace H:=Option.bind_eq_some_iff.mp H
 obtain ⟨⟨t435,t436,t437⟩,A20,H⟩:=H
 replace H:(if t437 = true then (card_Monotone.l0 k a0 (a0.size:Int) 0 t435 t436) else (some (0,0,2))) = some (r1,r2,r3):=H
 have A2:=Aside0.mk A20
 clear A20
 by_cases c3:t437 = true
 case neg =>
  replace c3:=Bool.eq_false_iff.mpr c3
  subst c3
  have H1:(some (0,0,2)) = some (r1,r2,r3):=by rw [if_neg (show ¬ (false = true) by decide)] at H;exact H
  clear H
  have H:=H1
  clear H1
  simp only [Option.some.injEq,Prod.mk.injEq] at H
  obtain ⟨rfl,rfl,rfl⟩:=H
  go_enter Try.func50,Try.ntmps50
  go_wp2_with (first | ((with_reducible refine gate_callee (f:=58) rfl ?_);refine goesL_ (some 11) rfl rfl Try.func58 (by kernel_rfl) rfl #[.string a0] rfl (by (try simp only [List.map_toArray,List.map_cons,List.map_nil]);first | done | rfl | (simp only [List.length_drop,List.length_take];rfl)) ?_;(with_reducible refine (card_newTotal.calls a0 t435 t436 false _ A2.out).mono ?_);rintro e w23 ⟨rfl,hb⟩;refine ⟨_,rfl,?_⟩;have n0_:=Aside0.mk (below_step (by repeat (first | (with_reducible first | exact HB.out | apply below_alloc | apply pw_below_drewN | apply below_drew1) | exact HB.out)) hb);clear HB;have HB:=n0_;clear n0_;(try clear hb)) | ((with_reducible refine gate_dst (N:=5) rfl ?_);refine box_event ?hg (N:=5) ?hd (cs:=#[.int .i64 0,.string (⟨#[]⟩:ByteArray)]) (t:=81) ?hr ?_;(case hd=>rfl);(case hg=>rfl);(case hr=>first | (go_simp;done) | (go_simp;rfl));intro gb438 hg w24 hbox hb;have n0_:=Aside0.mk (below_step (by repeat (first | (with_reducible first | exact HB.out | apply below_alloc | apply pw_below_drewN | apply below_drew1) | exact HB.out)) hb);have n1_:=Aside0.mk (hbox);have n2_:=Aside0.mk ((by rw [hg];exact (below_size (by repeat (first | (with_reducible first | exact HB.out | apply below_alloc | apply pw_below_drewN | apply below_drew1) | exact HB.out))):w.heap.size ≤ gb438));have n3_:=Aside0.mk ((by rw [hg];exact (below_size (by repeat (first | (with_reducible first | exact HB.out | apply below_alloc | apply pw_below_drewN | apply below_drew1) | exact HB.out))):w.heap.size ≤ gb438));clear HB;have HB:=n0_;have BK438:=n1_;have GW438:=n2_;have GE438:=n3_;clear n0_ n1_ n2_ n3_;clear hb hbox hg;have hcz25_0:w24.cell? ⟨gb438,0,none⟩ = some (.int .i64 0):=(blk_cell BK438.out 0).trans rfl;have hcz25_1:w24.cell? ⟨gb438,1,none⟩ = some (.string (⟨#[]⟩:ByteArray)):=(blk_cell BK438.out 1).trans rfl;have hfz25_0:=blk_frozen BK438.out 0;have hfz25_1:=blk_frozen BK438.out 1))
  go_ret3
  exact ⟨by first | rfl | (simp [errW_none,errW_some] <;> rfl) | (simp [*,errW_none,errW_some] <;> rfl),by repeat (first | (with_reducible first | exact HB.out | apply below_alloc | apply pw_below_drewN | apply below_drew1 | refine below_set ?_ GE438.out) | exact HB.out)⟩
 subst c3
 have H1:(card_Monotone.l0 k a0 (a0.size:Int) 0 t435 t436) = some (r1,r2,r3):=by rw [if_pos rfl] at H;exact H
 clear H
 have H:=H1
 clear H1
 have H':=Aside0.mk H
 clear H
 go_enter Try.func50,Try.ntmps50
 go_wp2_with (first | ((with_reducible refine gate_callee (f:=58) rfl ?_);refine goesL_ (some 11) rfl rfl Try.func58 (by kernel_rfl) rfl #[.string a0] rfl (by (try simp only [List.map_toArray,List.map_cons,List.map_nil]);first | done | rfl | (simp only [List.length_drop,List.length_take];rfl)) ?_;(with_reducible refine (card_newTotal.calls a0 t435 t436 true _ A2.out).mono ?_);rintro e w4 ⟨rfl,hb⟩;refine ⟨_,rfl,?_⟩;have n0_:=Aside0.mk (below_step (by repeat (first | (with_reducible first | exact HB.out | apply below_alloc | apply pw_below_drewN | apply below_drew1) | exact HB.out)) hb);clear HB;have HB:=n0_;clear n0_;(try clear hb)) | ((with_reducible refine gate_dst (N:=5) rfl ?_);refine box_event ?hg (N:=5) ?hd (cs:=#[.int .i64 0,.string (⟨#[]⟩:ByteArray)]) (t:=81) ?hr ?_;(case hd=>rfl);(case hg=>rfl);(case hr=>first | (go_simp;done) | (go_simp;rfl));intro gb438 hg w5 hbox hb;have n0_:=Aside0.mk (below_step (by repeat (first | (with_reducible first | exact HB.out | apply below_alloc | apply pw_below_drewN | apply below_drew1) | exact HB.out)) hb);have n1_:=Aside0.mk (hbox);have n2_:=Aside0.mk ((by rw [hg];exact (below_size (by repeat (first | (with_reducible first | exact HB.out | apply below_alloc | apply pw_below_drewN | apply below_drew1) | exact HB.out))):w.heap.size ≤ gb438));have n3_:=Aside0.mk ((by rw [hg];exact (below_size (by repeat (first | (with_reducible first | exact HB.out | apply below_alloc | apply pw_below_drewN | apply below_drew1) | exact HB.out))):w.heap.size ≤ gb438));clear HB;have HB:=n0_;have BK438:=n1_;have GW438:=n2_;have GE438:=n3_;clear n0_ n1_ n2_ n3_;clear hb hbox hg;have hcz6_0:w5.cell? ⟨gb438,0,none⟩ = some (.int .i64 0):=(blk_cell BK438.out 0).trans rfl;have hcz6_1:w5.cell? ⟨gb438,1,none⟩ = some (.string (⟨#[]⟩:ByteArray)):=(blk_cell BK438.out 1).trans rfl;have hfz6_0:=blk_frozen BK438.out 0;have hfz6_1:=blk_frozen BK438.out 1))
 go_loopg [18] k (fun kq v18 w'=>∃ (x18_1:Int),v18 = .int .i64 x18_1 ∧ Aside0 (card_Monotone.l0 kq a0 (a0.size:Int) x18_1 t435 t436 = some (r1,r2,r3)) ∧ Aside0 (kq ≤ k) ∧ Aside0 (w'.heap[gb438]? = some (.cells #[.int .i64 t435,.string t436] 81 (0,0))) ∧ Aside0 (Below w.heap.size w w'))
 case atStart=>exact ⟨(0),(by first | rfl | (simp;done) | (simp [*];done)),H',⟨Nat.le_refl _⟩,⟨by (with_reducible repeat (first | refine blk_drewN ?_ _ | refine blk_drew ?_ | refine blk_alloc ?_ _));refine blk_put (cs:=#[.int .i64 t435,.string (⟨#[]⟩:ByteArray)]) ?_ 1 _ rfl;(with_reducible repeat (first | refine blk_drewN ?_ _ | refine blk_drew ?_ | refine blk_alloc ?_ _));refine blk_put (cs:=#[.int .i64 0,.string (⟨#[]⟩:ByteArray)]) ?_ 0 _ rfl;(with_reducible repeat (first | refine blk_drewN ?_ _ | refine blk_drew ?_ | refine blk_alloc ?_ _));exact BK438.out⟩,⟨by repeat (first | (with_reducible first | exact HB.out | apply below_alloc | apply pw_below_drewN | apply below_drew1 | refine below_set ?_ GE438.out) | exact HB.out)⟩⟩
 case round =>
  clear H'
  try clear p2
  try clear c3
  try clear c5
  try clear hcz6_0
  try clear hcz6_1
  try clear hfz6_0
  try clear hfz6_1
  obtain ⟨x18_1,rfl,HA,HK1,BK438,HB⟩:=hrel
  cases gk with
  | zero=>exact absurd HA.out (by simp [card_Monotone.l0])
  | succ k1 =>
   have H:=HA.out
   clear HA
   simp only [card_Monotone.l0] at H
   by_cases c7:x18_1 < (a0.size:Int)
   case neg =>
    rw [if_neg c7] at H
    have c7b0:decide (x18_1 < (a0.size:Int)) = false:=decide_eq_false c7
    clear c7
    simp only [Option.some.injEq,Prod.mk.injEq] at H
    obtain ⟨rfl,rfl,rfl⟩:=H
    go_wp2
    go_ret3
    exact ⟨by first | rfl | (simp [errW_none,errW_some] <;> rfl) | (simp [*,errW_none,errW_some] <;> rfl),by repeat (first | (with_reducible first | exact HB.out | apply below_alloc | apply pw_below_drewN | apply below_drew1 | refine below_set ?_ GE438.out) | exact HB.out)⟩
   rw [if_pos c7] at H
   have c7b0:decide (x18_1 < (a0.size:Int)) = true:=decide_eq_true c7
   clear c7
   have H':=Aside0.mk H
   clear H
   have hcz8_0:wr.cell? ⟨gb438,0,none⟩ = some (.int .i64 t435):=(blk_cell BK438.out 0).trans rfl
   have hcz8_1:wr.cell? ⟨gb438,1,none⟩ = some (.string t436):=(blk_cell BK438.out 1).trans rfl
   have hfz8_0:=blk_frozen BK438.out 0
   have hfz8_1:=blk_frozen BK438.out 1
   go_wp2
   go_loopg [23] k1 (fun kq v23 w'=>∃ (x23_2:Int),v23 = .int .i64 x23_2 ∧ Aside0 (card_Monotone.l1 kq a0 x18_1 (a0.size:Int) x18_1 t435 x23_2 t435 t436 = some (r1,r2,r3)) ∧ Aside0 (kq ≤ k1) ∧ Aside0 (w'.heap[gb438]? = some (.cells #[.int .i64 t435,.string t436] 81 (0,0))) ∧ Aside0 (Below w.heap.size w w'))
   case atStart=>exact ⟨(0),(by first | rfl | (simp;done) | (simp [*];done)),H',⟨Nat.le_refl _⟩,⟨by (with_reducible repeat (first | refine blk_drewN ?_ _ | refine blk_drew ?_ | refine blk_alloc ?_ _));exact BK438.out⟩,⟨by repeat (first | (with_reducible first | exact HB.out | apply below_alloc | apply pw_below_drewN | apply below_drew1 | refine below_set ?_ GE438.out) | exact HB.out)⟩⟩
   case round =>
    clear H'
    try clear p2
    try clear c3
    try clear c5
    try clear c7
    try clear c7b0
    try clear hcz6_0
    try clear hcz6_1
    try clear hcz8_0
    try clear hcz8_1
    try clear hfz6_0
    try clear hfz6_1
    try clear hfz8_0
    try clear hfz8_1
    try clear p2
    obtain ⟨x23_2,rfl,HA,HK2,BK438,HB⟩:=hrel
    cases gk with
    | zero=>exact absurd HA.out (by simp [card_Monotone.l1])
    | succ k2 =>
     have H:=HA.out
     clear HA
     simp only [card_Monotone.l1] at H
     by_cases c9:x23_2 < t435
     case neg =>
      rw [if_neg c9] at H
      have c9b0:decide (x23_2 < t435) = false:=decide_eq_false c9
      clear c9
      have H':=Aside0.mk H
      clear H
      go_wp2
      go_roundg k2
      case measure=>have:=HK1.out;have:=HK2.out;omega
      case rel=>exact ⟨(wrap64 (x18_1 + 1)),(by first | rfl | (simp;done) | (simp [*];done)),H',⟨by have:=HK1.out;have:=HK2.out;omega⟩,⟨by (with_reducible repeat (first | refine blk_drewN ?_ _ | refine blk_drew ?_ | refine blk_alloc ?_ _));exact BK438.out⟩,⟨by repeat (first | (with_reducible first | exact HB.out | apply below_alloc | apply pw_below_drewN | apply below_drew1 | refine below_set ?_ GE438.out) | exact HB.out)⟩⟩
     rw [if_pos c9] at H
     have c9b0:decide (x23_2 < t435) = true:=decide_eq_true c9
     clear c9
     by_cases c10:0 ≤ x23_2
     case neg =>
      rw [if_neg c10] at H
      exact absurd H (by simp)
     rw [if_pos c10] at H
     have c10b0:=eq_true c10
     have c10b1:decide (0 ≤ x23_2) = true:=decide_eq_true c10
     clear c10
     obtain ⟨ji11,hji11⟩:∃ j_:Int,(shr .i64 x18_1 x23_2) = j_:=⟨_,rfl⟩
     replace H:(if (Go.bits .and .i64 (ji11) 1) = 0 then (if 0 ≤ x18_1 then (if x18_1 < (a0.size:Int) then (if (bt a0 x18_1) = 49 then (if 0 ≤ (Go.bits .or .i64 x18_1 (shl .i64 1 x23_2)) then (if (Go.bits .or .i64 x18_1 (shl .i64 1 x23_2)) < (a0.size:Int) then (if (bt a0 (Go.bits .or .i64 x18_1 (shl .i64 1 x23_2))) = 48 then (some (x18_1,x23_2,0)) else (card_Monotone.l1 k2 a0 x18_1 (a0.size:Int) x18_1 t435 (wrap64 (x23_2 + 1)) t435 t436)) else (none)) else (none)) else (card_Monotone.l1 k2 a0 x18_1 (a0.size:Int) x18_1 t435 (wrap64 (x23_2 + 1)) t435 t436)) else (none)) else (none)) else (card_Monotone.l1 k2 a0 x18_1 (a0.size:Int) x18_1 t435 (wrap64 (x23_2 + 1)) t435 t436)) = some (r1,r2,r3):=by first | (rw [hji11] at H;exact H) | (simp only [hji11] at H ⊢;exact H)
     have hji11_:(x18_1 / 2 ^ min x23_2.toNat 64) = ji11:=hji11
     have hji11z:x23_2 ≤ 64 → (x18_1 / 2 ^ x23_2.toNat) = ji11:=shr_small hji11
     by_cases c12:(Go.bits .and .i64 (ji11) 1) = 0
     case neg =>
      rw [if_neg c12] at H
      have c12b0:((Go.bits .and .i64 (ji11) 1) == 0) = false:=beq_eq_false_iff_ne.mpr c12
      have c12b1:((Go.bits .and .i64 (ji11) 1) != 0) = true:=bne_iff_ne.mpr c12
      have H':=Aside0.mk H
      clear H
      go_wp2
      go_roundg k2
      case measure=>have:=HK1.out;have:=HK2.out;omega
      case rel=>exact ⟨(wrap64 (x23_2 + 1)),(by first | rfl | (simp;done) | (simp [*];done)),H',⟨by have:=HK1.out;have:=HK2.out;omega⟩,⟨by (with_reducible repeat (first | refine blk_drewN ?_ _ | refine blk_drew ?_ | refine blk_alloc ?_ _));exact BK438.out⟩,⟨by repeat (first | (with_reducible first | exact HB.out | apply below_alloc | apply pw_below_drewN | apply below_drew1 | refine below_set ?_ GE438.out) | exact HB.out)⟩⟩
     rw [if_pos c12] at H
     have c12b0:((Go.bits .and .i64 (ji11) 1) == 0) = true:=beq_iff_eq.mpr c12
     have c12b1:((Go.bits .and .i64 (ji11) 1) != 0) = false:=bne_eq_false_iff_eq.mpr c12
     clear c12
     by_cases c13:0 ≤ x18_1
     case neg =>
      rw [if_neg c13] at H
      exact absurd H (by simp)
     rw [if_pos c13] at H
     have c13b0:decide (0 ≤ x18_1) = true:=decide_eq_true c13
     clear c13
     by_cases c14:x18_1 < (a0.size:Int)
     case neg =>
      rw [if_neg c14] at H
      exact absurd H (by simp)
     rw [if_pos c14] at H
     have c14b0:decide (x18_1 < (a0.size:Int)) = true:=decide_eq_true c14
     clear c14
     by_cases c16:(bt a0 x18_1) = 49
     case neg =>
      rw [if_neg c16] at H
      have c16b0:((bt a0 x18_1) == 49) = false:=beq_eq_false_iff_ne.mpr c16
      have c16b1:((bt a0 x18_1) != 49) = true:=bne_iff_ne.mpr c16
      have H':=Aside0.mk H
      clear H
      have p15:0 ≤ (x18_1:Int):=of_decide_eq_true (by first | (with_reducible assumption) | assumption)
      have q15:x18_1 < (a0.size:Int):=of_decide_eq_true (by first | (with_reducible assumption) | assumption)
      have hx15:=bt_at a0 x18_1
      replace p15:=eq_true p15
      replace q15:=eq_true q15
      go_wp2
      go_roundg k2
      case measure=>have:=HK1.out;have:=HK2.out;omega
      case rel=>exact ⟨(wrap64 (x23_2 + 1)),(by first | rfl | (simp;done) | (simp [*];done)),H',⟨by have:=HK1.out;have:=HK2.out;omega⟩,⟨by (with_reducible repeat (first | refine blk_drewN ?_ _ | refine blk_drew ?_ | refine blk_alloc ?_ _));exact BK438.out⟩,⟨by repeat (first | (with_reducible first | exact HB.out | apply below_alloc | apply pw_below_drewN | apply below_drew1 | refine below_set ?_ GE438.out) | exact HB.out)⟩⟩
     rw [if_pos c16] at H
     have c16b0:((bt a0 x18_1) == 49) = true:=beq_iff_eq.mpr c16
     have c16b1:((bt a0 x18_1) != 49) = false:=bne_eq_false_iff_eq.mpr c16
     clear c16
     have c17b0:=eq_true (of_decide_eq_true (by first | (with_reducible assumption) | assumption):0 ≤ x23_2)
     obtain ⟨ji18,hji18⟩:∃ j_:Int,(shl .i64 1 x23_2) = j_:=⟨_,rfl⟩
     replace H:(if 0 ≤ (Go.bits .or .i64 x18_1 (ji18)) then (if (Go.bits .or .i64 x18_1 (ji18)) < (a0.size:Int) then (if (bt a0 (Go.bits .or .i64 x18_1 (ji18))) = 48 then (some (x18_1,x23_2,0)) else (card_Monotone.l1 k2 a0 x18_1 (a0.size:Int) x18_1 t435 (wrap64 (x23_2 + 1)) t435 t436)) else (none)) else (none)) = some (r1,r2,r3):=by first | (rw [hji18] at H;exact H) | (simp only [hji18] at H ⊢;exact H)
     have hji18_:(IntKind.i64.wrap (1 * 2 ^ min x23_2.toNat 64)) = ji18:=hji18
     have hji18z:x23_2 ≤ 64 → (IntKind.i64.wrap (1 * 2 ^ x23_2.toNat)) = ji18:=shl_small hji18
     have hji18u:(IntKind.i64.wrap (2 ^ min x23_2.toNat 64)) = ji18:=by have h_:=hji18_;rw [Int.one_mul] at h_;exact h_
     have hji18v:x23_2 ≤ 64 → (IntKind.i64.wrap (2 ^ x23_2.toNat)) = ji18:=fun hle_=>by have h_:=hji18z hle_;rw [Int.one_mul] at h_;exact h_
     have hji18y:(wrap64 (1 * 2 ^ min x23_2.toNat 64)) = ji18:=(i64_w _).symm.trans hji18_
     have hji18x:x23_2 ≤ 64 → (wrap64 (1 * 2 ^ x23_2.toNat)) = ji18:=fun h_=>(i64_w _).symm.trans (hji18z h_)
     by_cases c19:0 ≤ (Go.bits .or .i64 x18_1 (ji18))
     case neg =>
      rw [if_neg c19] at H
      exact absurd H (by simp)
     rw [if_pos c19] at H
     have c19b0:decide (0 ≤ (Go.bits .or .i64 x18_1 (ji18))) = true:=decide_eq_true c19
     clear c19
     by_cases c20:(Go.bits .or .i64 x18_1 (ji18)) < (a0.size:Int)
     case neg =>
      rw [if_neg c20] at H
      exact absurd H (by simp)
     rw [if_pos c20] at H
     have c20b0:decide ((Go.bits .or .i64 x18_1 (ji18)) < (a0.size:Int)) = true:=decide_eq_true c20
     clear c20
     by_cases c22:(bt a0 (Go.bits .or .i64 x18_1 (ji18))) = 48
     ·rw [if_pos c22] at H
      have c22b0:((bt a0 (Go.bits .or .i64 x18_1 (ji18))) == 48) = true:=beq_iff_eq.mpr c22
      have c22b1:((bt a0 (Go.bits .or .i64 x18_1 (ji18))) != 48) = false:=bne_eq_false_iff_eq.mpr c22
      clear c22
      simp only [Option.some.injEq,Prod.mk.injEq] at H
      obtain ⟨rfl,rfl,rfl⟩:=H
      have p15:0 ≤ (x18_1:Int):=of_decide_eq_true (by first | (with_reducible assumption) | assumption)
      have q15:x18_1 < (a0.size:Int):=of_decide_eq_true (by first | (with_reducible assumption) | assumption)
      have hx15:=bt_at a0 x18_1
      replace p15:=eq_true p15
      replace q15:=eq_true q15
      have p21:0 ≤ ((Go.bits .or .i64 x18_1 (ji18)):Int):=of_decide_eq_true (by first | (with_reducible assumption) | assumption)
      have q21:(Go.bits .or .i64 x18_1 (ji18)) < (a0.size:Int):=of_decide_eq_true (by first | (with_reducible assumption) | assumption)
      have hx21:=bt_at a0 (Go.bits .or .i64 x18_1 (ji18))
      replace p21:=eq_true p21
      replace q21:=eq_true q21
      go_wp2
      go_ret3
      exact ⟨by first | rfl | (simp [errW_none,errW_some] <;> rfl) | (simp only [← hji11,← hji18];first | rfl | (simp [errW_none,errW_some] <;> rfl)) | (simp [*,errW_none,errW_some] <;> rfl),by repeat (first | (with_reducible first | exact HB.out | apply below_alloc | apply pw_below_drewN | apply below_drew1 | refine below_set ?_ GE438.out) | exact HB.out)⟩
     rw [if_neg c22] at H
     have c22b0:((bt a0 (Go.bits .or .i64 x18_1 (ji18))) == 48) = false:=beq_eq_false_iff_ne.mpr c22
     have c22b1:((bt a0 (Go.bits .or .i64 x18_1 (ji18))) != 48) = true:=bne_iff_ne.mpr c22
     have H':=Aside0.mk H
     clear H
     have p15:0 ≤ (x18_1:Int):=of_decide_eq_true (by first | (with_reducible assumption) | assumption)
     have q15:x18_1 < (a0.size:Int):=of_decide_eq_true (by first | (with_reducible assumption) | assumption)
     have hx15:=bt_at a0 x18_1
     replace p15:=eq_true p15
     replace q15:=eq_true q15
     have p21:0 ≤ ((Go.bits .or .i64 x18_1 (ji18)):Int):=of_decide_eq_true (by first | (with_reducible assumption) | assumption)
     have q21:(Go.bits .or .i64 x18_1 (ji18)) < (a0.size:Int):=of_decide_eq_true (by first | (with_reducible assumption) | assumption)
     have hx21:=bt_at a0 (Go.bits .or .i64 x18_1 (ji18))
     replace p21:=eq_true p21
     replace q21:=eq_true q21
     go_wp2
     go_roundg k2
     case measure=>have:=HK1.out;have:=HK2.out;omega
     case rel=>exact ⟨(wrap64 (x23_2 + 1)),(by first | rfl | (simp;done) | (simp [*];done)),H',⟨by have:=HK1.out;have:=HK2.out;omega⟩,⟨by (with_reducible repeat (first | refine blk_drewN ?_ _ | refine blk_drew ?_ | refine blk_alloc ?_ _));exact BK438.out⟩,⟨by repeat (first | (with_reducible first | exact HB.out | apply below_alloc | apply pw_below_drewN | apply below_drew1 | refine below_set ?_ GE438.out) | exact HB.out)⟩⟩
mutual
def numnahref01_Monotone.l0:Nat → ByteArray → Int → Option (Int × Int)
 | 0,_,_=>none
 | k + 1,x0,x4=>if x4 < (x0.size:Int) then (numnahref01_Monotone.l1 k x0 x4 0) else (some ((-1),(-1)))
def numnahref01_Monotone.l1:Nat → ByteArray → Int → Int → Option (Int × Int)
 | 0,_,_,_=>none
 | k + 1,x0,x4,x5=>(numnahref01_Vars.f k x0).bind fun t439=>(if x5 < t439 then (if 0 ≤ x5 then (if (Int.tmod (shr .i64 x4 x5) 2) = 0 then (if 0 ≤ x4 then (if x4 < (x0.size:Int) then (if (bt x0 x4) = 49 then (if 0 ≤ (wrap64 (x4 + (shl .i64 1 x5))) then (if (wrap64 (x4 + (shl .i64 1 x5))) < (x0.size:Int) then (if (bt x0 (wrap64 (x4 + (shl .i64 1 x5)))) = 48 then (some (x4,x5)) else (numnahref01_Monotone.l1 k x0 x4 (wrap64 (x5 + 1)))) else (none)) else (none)) else (numnahref01_Monotone.l1 k x0 x4 (wrap64 (x5 + 1)))) else (none)) else (none)) else (numnahref01_Monotone.l1 k x0 x4 (wrap64 (x5 + 1)))) else (none)) else (numnahref01_Monotone.l0 k x0 (wrap64 (x4 + 1))))
end
def numnahref01_Monotone.f (k:Nat) (a0:ByteArray):Option (Int × Int):=numnahref01_Monotone.l0 k a0 0
theorem numnahref01_Monotone.mono_l:∀ k,(∀ y0 y1,LeO (numnahref01_Monotone.l0 k y0 y1) (numnahref01_Monotone.l0 (k + 1) y0 y1)) ∧ (∀ y0 y1 y2,LeO (numnahref01_Monotone.l1 k y0 y1 y2) (numnahref01_Monotone.l1 (k + 1) y0 y1 y2))
 | 0=>⟨fun _ _ r h=>by simp [numnahref01_Monotone.l0] at h,fun _ _ _ r h=>by simp [numnahref01_Monotone.l1] at h⟩
 | k + 1=>by
  obtain ⟨ih0,ih1⟩:=numnahref01_Monotone.mono_l k
  refine ⟨?_,?_⟩
  ·intro y0 y1
   unfold numnahref01_Monotone.l0
   repeat' first
   | (with_reducible exact ih0 _ _)
   | (with_reducible exact ih1 _ _ _)
   | (with_reducible exact numnahref01_Vars.mono _ _)
   | (with_reducible exact LeO.refl _)
   | (with_reducible exact LeO.none _)
   | (with_reducible refine LeO.ite ?_ ?_)
   | (with_reducible refine LeO.bind ?_ (fun _=>?_))
   | exact ih0 _ _
   | exact ih1 _ _ _
   | exact numnahref01_Vars.mono _ _
   | exact LeO.none _
   | refine LeO.ite ?_ ?_
   | refine LeO.bind ?_ (fun _=>?_)
  intro y0 y1 y2
  unfold numnahref01_Monotone.l1
  repeat' first
  | (with_reducible exact ih0 _ _)
  | (with_reducible exact ih1 _ _ _)
  | (with_reducible exact numnahref01_Vars.mono _ _)
  | (with_reducible exact LeO.refl _)
  | (with_reducible exact LeO.none _)
  | (with_reducible refine LeO.ite ?_ ?_)
  | (with_reducible refine LeO.bind ?_ (fun _=>?_))
  | exact ih0 _ _
  | exact ih1 _ _ _
  | exact numnahref01_Vars.mono _ _
  | exact LeO.none _
  | refine LeO.ite ?_ ?_
  | refine LeO.bind ?_ (fun _=>?_)
theorem numnahref01_Monotone.mono:∀ a0 k,LeO (numnahref01_Monotone.f k a0) (numnahref01_Monotone.f (k + 1) a0):=by
 intro a0 k
 obtain ⟨ih0,ih1⟩:=numnahref01_Monotone.mono_l k
 unfold numnahref01_Monotone.f
 repeat' first
   | (with_reducible exact ih0 _ _)
   | (with_reducible exact ih1 _ _ _)
   | (with_reducible exact numnahref01_Vars.mono _ _)
   | (with_reducible exact LeO.refl _)
   | (with_reducible exact LeO.none _)
   | (with_reducible refine LeO.ite ?_ ?_)
   | (with_reducible refine LeO.bind ?_ (fun _=>?_))
   | exact ih0 _ _
   | exact ih1 _ _ _
   | exact numnahref01_Vars.mono _ _
   | exact LeO.none _
   | refine LeO.ite ?_ ?_
   | refine LeO.bind ?_ (fun _=>?_)
theorem numnahref01_Monotone.calls (k:Nat) (a0:ByteArray) (r1:Int) (r2:Int) (w:World) (h:numnahref01_Monotone.f k a0 = some (r1,r2)) :
  Calls Try.prog 51 #[.string a0] w fun e w'=>e = .returned (.tuple #[.int .i64 r1,.int .i64 r2]) ∧ Drawn0 w w':=by
 have H:(numnahref01_Monotone.l0 k a0 0) = some (r1,r2):=h
 clear h
 have H':=Aside0.mk H
 clear H
 go_enter Try.func51,Try.ntmps51
 go_wp2
 go_loopg [4] k (fun kq v4 w'=>∃ (x4_1:Int),v4 = .int .i64 x4_1 ∧ Aside0 (numnahref01_Monotone.l0 kq a0 x4_1 = some (r1,r2)) ∧ Aside0 (kq ≤ k) ∧ Drawn0 w w')
 case atStart=>exact ⟨(0),(by first | rfl | (simp;done) | (simp [*];done)),H',⟨Nat.le_refl _⟩,by repeat (first | exact Drawn0.refl _ | apply Drawn0.step)⟩
 case round =>
  clear H'
  obtain ⟨x4_1,rfl,HA,HK1,⟨m1,rfl⟩⟩:=hrel
  cases gk with
  | zero=>exact absurd HA.out (by simp [numnahref01_Monotone.l0])
  | succ k1 =>
   have H:=HA.out
   clear HA
   simp only [numnahref01_Monotone.l0] at H
   by_cases c2:x4_1 < (a0.size:Int)
   case neg =>
    rw [if_neg c2] at H
    have c2b0:decide (x4_1 < (a0.size:Int)) = false:=decide_eq_false c2
    clear c2
    simp only [Option.some.injEq,Prod.mk.injEq] at H
    obtain ⟨rfl,rfl⟩:=H
    go_wp2
    go_ret2
    exact ⟨by first | rfl | (simp;done) | (simp [*];done),by repeat (first | exact Drawn0.refl _ | apply Drawn0.step)⟩
   rw [if_pos c2] at H
   have c2b0:decide (x4_1 < (a0.size:Int)) = true:=decide_eq_true c2
   clear c2
   have H':=Aside0.mk H
   clear H
   go_wp2
   go_loopg [5] k1 (fun kq v5 w'=>∃ (x5_2:Int),v5 = .int .i64 x5_2 ∧ Aside0 (numnahref01_Monotone.l1 kq a0 x4_1 x5_2 = some (r1,r2)) ∧ Aside0 (kq ≤ k1) ∧ Drawn0 w w')
   case atStart=>exact ⟨(0),(by first | rfl | (simp;done) | (simp [*];done)),H',⟨Nat.le_refl _⟩,by repeat (first | exact Drawn0.refl _ | apply Drawn0.step)⟩
   case round =>
    clear H'
    try clear c2
    try clear c2b0
    try clear p2
    obtain ⟨x5_2,rfl,HA,HK2,⟨m2,rfl⟩⟩:=hrel
    cases gk with
    | zero=>exact absurd HA.out (by simp [numnahref01_Monotone.l1])
    | succ k2 =>
     have H:=HA.out
     clear HA
     simp only [numnahref01_Monotone.l1] at H
     replace H:=Option.bind_eq_some_iff.mp H
     obtain ⟨t439,A30,H⟩:=H
     replace H:(if x5_2 < t439 then (if 0 ≤ x5_2 then (if (Int.tmod (shr .i64 x4_1 x5_2) 2) = 0 then (if 0 ≤ x4_1 then (if x4_1 < (a0.size:Int) then (if (bt a0 x4_1) = 49 then (if 0 ≤ (wrap64 (x4_1 + (shl .i64 1 x5_2))) then (if (wrap64 (x4_1 + (shl .i64 1 x5_2))) < (a0.size:Int) then (if (bt a0 (wrap64 (x4_1 + (shl .i64 1 x5_2)))) = 48 then (some (x4_1,x5_2)) else (numnahref01_Monotone.l1 k2 a0 x4_1 (wrap64 (x5_2 + 1)))) else (none)) else (none)) else (numnahref01_Monotone.l1 k2 a0 x4_1 (wrap64 (x5_2 + 1)))) else (none)) else (none)) else (numnahref01_Monotone.l1 k2 a0 x4_1 (wrap64 (x5_2 + 1)))) else (none)) else (numnahref01_Monotone.l0 k2 a0 (wrap64 (x4_1 + 1)))) = some (r1,r2):=H
     have A3:=Aside0.mk A30
     clear A30
     by_cases c4:x5_2 < t439
     case neg =>
      rw [if_neg c4] at H
      have c4b0:decide (x5_2 < t439) = false:=decide_eq_false c4
      clear c4
      have H':=Aside0.mk H
      clear H
      go_wp2_with (first | ((with_reducible refine gate_callee (f:=24) rfl ?_);refine goesL_ (some 14) rfl rfl Try.func24 (by kernel_rfl) rfl #[.string a0] rfl (by (try simp only [List.map_toArray,List.map_cons,List.map_nil]);first | done | rfl | (simp only [List.length_drop,List.length_take];rfl)) ?_;(with_reducible refine (numnahref01_Vars.calls k2 a0 t439 _ A3.out).mono ?_);rintro e w' ⟨rfl,⟨nd,rfl⟩⟩;refine ⟨_,rfl,?_⟩))
      go_roundg k2
      case measure=>have:=HK1.out;have:=HK2.out;omega
      case rel=>exact ⟨(wrap64 (x4_1 + 1)),(by first | rfl | (simp;done) | (simp [*];done)),H',⟨by have:=HK1.out;have:=HK2.out;omega⟩,by repeat (first | exact Drawn0.refl _ | apply Drawn0.step)⟩
     rw [if_pos c4] at H
     have c4b0:decide (x5_2 < t439) = true:=decide_eq_true c4
     clear c4
     by_cases c5:0 ≤ x5_2
     case neg =>
      rw [if_neg c5] at H
      exact absurd H (by simp)
     rw [if_pos c5] at H
     have c5b0:=eq_true c5
     have c5b1:decide (0 ≤ x5_2) = true:=decide_eq_true c5
     clear c5
     obtain ⟨ji6,hji6⟩:∃ j_:Int,(shr .i64 x4_1 x5_2) = j_:=⟨_,rfl⟩
     replace H:(if (Int.tmod (ji6) 2) = 0 then (if 0 ≤ x4_1 then (if x4_1 < (a0.size:Int) then (if (bt a0 x4_1) = 49 then (if 0 ≤ (wrap64 (x4_1 + (shl .i64 1 x5_2))) then (if (wrap64 (x4_1 + (shl .i64 1 x5_2))) < (a0.size:Int) then (if (bt a0 (wrap64 (x4_1 + (shl .i64 1 x5_2)))) = 48 then (some (x4_1,x5_2)) else (numnahref01_Monotone.l1 k2 a0 x4_1 (wrap64 (x5_2 + 1)))) else (none)) else (none)) else (numnahref01_Monotone.l1 k2 a0 x4_1 (wrap64 (x5_2 + 1)))) else (none)) else (none)) else (numnahref01_Monotone.l1 k2 a0 x4_1 (wrap64 (x5_2 + 1)))) = some (r1,r2):=by first | (rw [hji6] at H;exact H) | (simp only [hji6] at H ⊢;exact H)
     (try rw [hji6] at A3)
     have hji6_:(x4_1 / 2 ^ min x5_2.toNat 64) = ji6:=hji6
     have hji6z:x5_2 ≤ 64 → (x4_1 / 2 ^ x5_2.toNat) = ji6:=shr_small hji6
     by_cases c7:(Int.tmod (ji6) 2) = 0
     case neg =>
      rw [if_neg c7] at H
      have c7b0:((Int.tmod (ji6) 2) == 0) = false:=beq_eq_false_iff_ne.mpr c7
      have c7b1:((Int.tmod (ji6) 2) != 0) = true:=bne_iff_ne.mpr c7
      have H':=Aside0.mk H
      clear H
      go_wp2_with (first | ((with_reducible refine gate_callee (f:=24) rfl ?_);refine goesL_ (some 14) rfl rfl Try.func24 (by kernel_rfl) rfl #[.string a0] rfl (by (try simp only [List.map_toArray,List.map_cons,List.map_nil]);first | done | rfl | (simp only [List.length_drop,List.length_take];rfl)) ?_;(with_reducible refine (numnahref01_Vars.calls k2 a0 t439 _ A3.out).mono ?_);rintro e w' ⟨rfl,⟨nd,rfl⟩⟩;refine ⟨_,rfl,?_⟩))
      go_roundg k2
      case measure=>have:=HK1.out;have:=HK2.out;omega
      case rel=>exact ⟨(wrap64 (x5_2 + 1)),(by first | rfl | (simp;done) | (simp [*];done)),H',⟨by have:=HK1.out;have:=HK2.out;omega⟩,by repeat (first | exact Drawn0.refl _ | apply Drawn0.step)⟩
     rw [if_pos c7] at H
     have c7b0:((Int.tmod (ji6) 2) == 0) = true:=beq_iff_eq.mpr c7
     have c7b1:((Int.tmod (ji6) 2) != 0) = false:=bne_eq_false_iff_eq.mpr c7
     clear c7
     by_cases c8:0 ≤ x4_1
     case neg =>
      rw [if_neg c8] at H
      exact absurd H (by simp)
     rw [if_pos c8] at H
     have c8b0:decide (0 ≤ x4_1) = true:=decide_eq_true c8
     clear c8
     by_cases c9:x4_1 < (a0.size:Int)
     case neg =>
      rw [if_neg c9] at H
      exact absurd H (by simp)
     rw [if_pos c9] at H
     have c9b0:decide (x4_1 < (a0.size:Int)) = true:=decide_eq_true c9
     clear c9
     by_cases c11:(bt a0 x4_1) = 49
     case neg =>
      rw [if_neg c11] at H
      have c11b0:((bt a0 x4_1) == 49) = false:=beq_eq_false_iff_ne.mpr c11
      have c11b1:((bt a0 x4_1) != 49) = true:=bne_iff_ne.mpr c11
      have H':=Aside0.mk H
      clear H
      go_wp2_with (first | ((with_reducible refine gate_callee (f:=24) rfl ?_);refine goesL_ (some 14) rfl rfl Try.func24 (by kernel_rfl) rfl #[.string a0] rfl (by (try simp only [List.map_toArray,List.map_cons,List.map_nil]);first | done | rfl | (simp only [List.length_drop,List.length_take];rfl)) ?_;(with_reducible refine (numnahref01_Vars.calls k2 a0 t439 _ A3.out).mono ?_);rintro e w' ⟨rfl,⟨nd,rfl⟩⟩;refine ⟨_,rfl,?_⟩;have p10:0 ≤ (x4_1:Int):=of_decide_eq_true (by first | (with_reducible assumption) | assumption);have q10:x4_1 < (a0.size:Int):=of_decide_eq_true (by first | (with_reducible assumption) | assumption);have hx10:=bt_at a0 x4_1;replace p10:=eq_true p10;replace q10:=eq_true q10))
      go_roundg k2
      case measure=>have:=HK1.out;have:=HK2.out;omega
      case rel=>exact ⟨(wrap64 (x5_2 + 1)),(by first | rfl | (simp;done) | (simp [*];done)),H',⟨by have:=HK1.out;have:=HK2.out;omega⟩,by repeat (first | exact Drawn0.refl _ | apply Drawn0.step)⟩
     rw [if_pos c11] at H
     have c11b0:((bt a0 x4_1) == 49) = true:=beq_iff_eq.mpr c11
     have c11b1:((bt a0 x4_1) != 49) = false:=bne_eq_false_iff_eq.mpr c11
     clear c11
     have c12b0:=eq_true (of_decide_eq_true (by first | (with_reducible assumption) | assumption):0 ≤ x5_2)
     obtain ⟨ji13,hji13⟩:∃ j_:Int,(shl .i64 1 x5_2) = j_:=⟨_,rfl⟩
     replace H:(if 0 ≤ (wrap64 (x4_1 + (ji13))) then (if (wrap64 (x4_1 + (ji13))) < (a0.size:Int) then (if (bt a0 (wrap64 (x4_1 + (ji13)))) = 48 then (some (x4_1,x5_2)) else (numnahref01_Monotone.l1 k2 a0 x4_1 (wrap64 (x5_2 + 1)))) else (none)) else (none)) = some (r1,r2):=by first | (rw [hji13] at H;exact H) | (simp only [hji13] at H ⊢;exact H)
     (try rw [hji13] at A3)
     have hji13_:(IntKind.i64.wrap (1 * 2 ^ min x5_2.toNat 64)) = ji13:=hji13
     have hji13z:x5_2 ≤ 64 → (IntKind.i64.wrap (1 * 2 ^ x5_2.toNat)) = ji13:=shl_small hji13
     have hji13u:(IntKind.i64.wrap (2 ^ min x5_2.toNat 64)) = ji13:=by have h_:=hji13_;rw [Int.one_mul] at h_;exact h_
     have hji13v:x5_2 ≤ 64 → (IntKind.i64.wrap (2 ^ x5_2.toNat)) = ji13:=fun hle_=>by have h_:=hji13z hle_;rw [Int.one_mul] at h_;exact h_
     have hji13y:(wrap64 (1 * 2 ^ min x5_2.toNat 64)) = ji13:=(i64_w _).symm.trans hji13_
     have hji13x:x5_2 ≤ 64 → (wrap64 (1 * 2 ^ x5_2.toNat)) = ji13:=fun h_=>(i64_w _).symm.trans (hji13z h_)
     obtain ⟨ji14,hji14⟩:∃ j_:Int,(wrap64 (x4_1 + (ji13))) = j_:=⟨_,rfl⟩
     replace H:(if 0 ≤ (ji14) then (if (ji14) < (a0.size:Int) then (if (bt a0 (ji14)) = 48 then (some (x4_1,x5_2)) else (numnahref01_Monotone.l1 k2 a0 x4_1 (wrap64 (x5_2 + 1)))) else (none)) else (none)) = some (r1,r2):=by first | (rw [hji14] at H;exact H) | (simp only [hji14] at H ⊢;exact H)
     (try rw [hji14] at A3)
     have hji14w:(IntKind.i64.wrap (x4_1 + (ji13))) = ji14:=(i64_w _).trans hji14
     by_cases c15:0 ≤ (ji14)
     case neg =>
      rw [if_neg c15] at H
      exact absurd H (by simp)
     rw [if_pos c15] at H
     have c15b0:decide (0 ≤ (ji14)) = true:=decide_eq_true c15
     clear c15
     by_cases c16:(ji14) < (a0.size:Int)
     case neg =>
      rw [if_neg c16] at H
      exact absurd H (by simp)
     rw [if_pos c16] at H
     have c16b0:decide ((ji14) < (a0.size:Int)) = true:=decide_eq_true c16
     clear c16
     by_cases c18:(bt a0 (ji14)) = 48
     ·rw [if_pos c18] at H
      have c18b0:((bt a0 (ji14)) == 48) = true:=beq_iff_eq.mpr c18
      have c18b1:((bt a0 (ji14)) != 48) = false:=bne_eq_false_iff_eq.mpr c18
      clear c18
      simp only [Option.some.injEq,Prod.mk.injEq] at H
      obtain ⟨rfl,rfl⟩:=H
      go_wp2_with (first | ((with_reducible refine gate_callee (f:=24) rfl ?_);refine goesL_ (some 14) rfl rfl Try.func24 (by kernel_rfl) rfl #[.string a0] rfl (by (try simp only [List.map_toArray,List.map_cons,List.map_nil]);first | done | rfl | (simp only [List.length_drop,List.length_take];rfl)) ?_;(with_reducible refine (numnahref01_Vars.calls k2 a0 t439 _ A3.out).mono ?_);rintro e w' ⟨rfl,⟨nd,rfl⟩⟩;refine ⟨_,rfl,?_⟩;have p10:0 ≤ (x4_1:Int):=of_decide_eq_true (by first | (with_reducible assumption) | assumption);have q10:x4_1 < (a0.size:Int):=of_decide_eq_true (by first | (with_reducible assumption) | assumption);have hx10:=bt_at a0 x4_1;replace p10:=eq_true p10;replace q10:=eq_true q10;have p17:0 ≤ ((ji14):Int):=of_decide_eq_true (by first | (with_reducible assumption) | assumption);have q17:(ji14) < (a0.size:Int):=of_decide_eq_true (by first | (with_reducible assumption) | assumption);have hx17:=bt_at a0 (ji14);replace p17:=eq_true p17;replace q17:=eq_true q17))
      go_ret2
      exact ⟨by first | rfl | (simp;done) | (simp only [← hji6,← hji13,← hji14] <;> (first | rfl | simp)) | (simp [*];done),by repeat (first | exact Drawn0.refl _ | apply Drawn0.step)⟩
     rw [if_neg c18] at H
     have c18b0:((bt a0 (ji14)) == 48) = false:=beq_eq_false_iff_ne.mpr c18
     have c18b1:((bt a0 (ji14)) != 48) = true:=bne_iff_ne.mpr c18
     have H':=Aside0.mk H
     clear H
     go_wp2_with (first | ((with_reducible refine gate_callee (f:=24) rfl ?_);refine goesL_ (some 14) rfl rfl Try.func24 (by kernel_rfl) rfl #[.string a0] rfl (by (try simp only [List.map_toArray,List.map_cons,List.map_nil]);first | done | rfl | (simp only [List.length_drop,List.length_take];rfl)) ?_;(with_reducible refine (numnahref01_Vars.calls k2 a0 t439 _ A3.out).mono ?_);rintro e w' ⟨rfl,⟨nd,rfl⟩⟩;refine ⟨_,rfl,?_⟩;have p10:0 ≤ (x4_1:Int):=of_decide_eq_true (by first | (with_reducible assumption) | assumption);have q10:x4_1 < (a0.size:Int):=of_decide_eq_true (by first | (with_reducible assumption) | assumption);have hx10:=bt_at a0 x4_1;replace p10:=eq_true p10;replace q10:=eq_true q10;have p17:0 ≤ ((ji14):Int):=of_decide_eq_true (by first | (with_reducible assumption) | assumption);have q17:(ji14) < (a0.size:Int):=of_decide_eq_true (by first | (with_reducible assumption) | assumption);have hx17:=bt_at a0 (ji14);replace p17:=eq_true p17;replace q17:=eq_true q17))
     go_roundg k2
     case measure=>have:=HK1.out;have:=HK2.out;omega
     case rel=>exact ⟨(wrap64 (x5_2 + 1)),(by first | rfl | (simp;done) | (simp [*];done)),H',⟨by have:=HK1.out;have:=HK2.out;omega⟩,by repeat (first | exact Drawn0.refl _ | apply Drawn0.step)⟩
def numnahref01_digits.l0:Nat → Int → Int → Option (Int)
 | 0,_,_=>none
 | k + 1,x0,x3=>if x0 > 0 then (numnahref01_digits.l0 k (wrap64 (Int.tdiv x0 2)) (wrap64 (x3 + (Int.tmod x0 2)))) else (some x3)
def numnahref01_digits.f (k:Nat) (a0:Int):Option (Int):=numnahref01_digits.l0 k a0 0
theorem numnahref01_digits.mono_l:∀ k,(∀ y0 y1,LeO (numnahref01_digits.l0 k y0 y1) (numnahref01_digits.l0 (k + 1) y0 y1))
 | 0=>fun _ _ r h=>by simp [numnahref01_digits.l0] at h
 | k + 1=>by
  have ih0:=numnahref01_digits.mono_l k
  intro y0 y1
  unfold numnahref01_digits.l0
  repeat' first
  | (with_reducible exact ih0 _ _)
  | (with_reducible exact LeO.refl _)
  | (with_reducible exact LeO.none _)
  | (with_reducible refine LeO.ite ?_ ?_)
  | (with_reducible refine LeO.bind ?_ (fun _=>?_))
  | exact ih0 _ _
  | exact LeO.none _
  | refine LeO.ite ?_ ?_
  | refine LeO.bind ?_ (fun _=>?_)
theorem numnahref01_digits.mono:∀ a0 k,LeO (numnahref01_digits.f k a0) (numnahref01_digits.f (k + 1) a0):=by
 intro a0 k
 have ih0:=numnahref01_digits.mono_l k
 unfold numnahref01_digits.f
 repeat' first
   | (with_reducible exact ih0 _ _)
   | (with_reducible exact LeO.refl _)
   | (with_reducible exact LeO.none _)
   | (with_reducible refine LeO.ite ?_ ?_)
   | (with_reducible refine LeO.bind ?_ (fun _=>?_))
   | exact ih0 _ _
   | exact LeO.none _
   | refine LeO.ite ?_ ?_
   | refine LeO.bind ?_ (fun _=>?_)
theorem numnahref01_digits.calls (k:Nat) (a0:Int) (r:Int) (w:World) (h:numnahref01_digits.f k a0 = some r) :
  Calls Try.prog 88 #[.int .i64 a0] w fun e w'=>e = .returned (.int .i64 r) ∧ Drawn0 w w':=by
 have H:(numnahref01_digits.l0 k a0 0) = some r:=h
 clear h
 have H':=Aside0.mk H
 clear H
 go_enter Try.func88,Try.ntmps88
 go_wp2
 go_loopg [0,3] k (fun kq v0 v3 w'=>∃ (x0_1:Int) (x3_1:Int),v0 = .int .i64 x0_1 ∧ v3 = .int .i64 x3_1 ∧ Aside0 (numnahref01_digits.l0 kq x0_1 x3_1 = some r) ∧ Aside0 (kq ≤ k) ∧ Drawn0 w w')
 case atStart=>exact ⟨(a0),(0),(by first | rfl | (simp;done) | (simp [*];done)),(by first | rfl | (simp;done) | (simp [*];done)),H',⟨Nat.le_refl _⟩,by repeat (first | exact Drawn0.refl _ | apply Drawn0.step)⟩
 case round =>
  clear H'
  obtain ⟨x0_1,x3_1,rfl,rfl,HA,HK1,⟨m1,rfl⟩⟩:=hrel
  cases gk with
  | zero=>exact absurd HA.out (by simp [numnahref01_digits.l0])
  | succ k1 =>
   have H:=HA.out
   clear HA
   simp only [numnahref01_digits.l0] at H
   by_cases c2:x0_1 > 0
   case neg =>
    rw [if_neg c2] at H
    have c2b0:decide (0 < x0_1) = false:=decide_eq_false c2
    clear c2
    obtain rfl:=Option.some.inj H
    go_wp2
    go_ret
    exact ⟨by first | rfl | (simp;done) | (simp [*];done),by repeat (first | exact Drawn0.refl _ | apply Drawn0.step)⟩
   rw [if_pos c2] at H
   have c2b0:decide (0 < x0_1) = true:=decide_eq_true c2
   clear c2
   have H':=Aside0.mk H
   clear H
   go_wp2
   go_roundg k1
   case measure=>have:=HK1.out;omega
   case rel=>exact ⟨(wrap64 (Int.tdiv x0_1 2)),(wrap64 (x3_1 + (Int.tmod x0_1 2))),(by first | rfl | (simp;done) | (simp [*];done)),(by first | rfl | (simp;done) | (simp [*];done)),H',⟨by have:=HK1.out;omega⟩,by repeat (first | exact Drawn0.refl _ | apply Drawn0.step)⟩
def numnahref01_decides.l0:Nat → ByteArray → Int → Int → Int → Option (Bool)
 | 0,_,_,_,_=>none
 | k + 1,x0,x1,x2,x7=>if x7 < (x0.size:Int) then (if (Go.bits .and .i64 (Go.bits .xor .i64 x1 x7) x2) = 0 then (if 0 ≤ x7 then (if 0 ≤ x1 then (if x1 < (x0.size:Int) then (if (bt x0 x7) = (bt x0 x1) then (numnahref01_decides.l0 k x0 x1 x2 (wrap64 (x7 + 1))) else (some false)) else (none)) else (none)) else (none)) else (numnahref01_decides.l0 k x0 x1 x2 (wrap64 (x7 + 1)))) else (some true)
def numnahref01_decides.f (k:Nat) (a0:ByteArray) (a1:Int) (a2:Int):Option (Bool):=numnahref01_decides.l0 k a0 a1 a2 0
theorem numnahref01_decides.mono_l:∀ k,(∀ y0 y1 y2 y3,LeO (numnahref01_decides.l0 k y0 y1 y2 y3) (numnahref01_decides.l0 (k + 1) y0 y1 y2 y3))
 | 0=>fun _ _ _ _ r h=>by simp [numnahref01_decides.l0] at h
 | k + 1=>by
  have ih0:=numnahref01_decides.mono_l k
  intro y0 y1 y2 y3
  unfold numnahref01_decides.l0
  repeat' first
  | (with_reducible exact ih0 _ _ _ _)
  | (with_reducible exact LeO.refl _)
  | (with_reducible exact LeO.none _)
  | (with_reducible refine LeO.ite ?_ ?_)
  | (with_reducible refine LeO.bind ?_ (fun _=>?_))
  | exact ih0 _ _ _ _
  | exact LeO.none _
  | refine LeO.ite ?_ ?_
  | refine LeO.bind ?_ (fun _=>?_)
theorem numnahref01_decides.mono:∀ a0 a1 a2 k,LeO (numnahref01_decides.f k a0 a1 a2) (numnahref01_decides.f (k + 1) a0 a1 a2):=by
 intro a0 a1 a2 k
 have ih0:=numnahref01_decides.mono_l k
 unfold numnahref01_decides.f
 repeat' first
   | (with_reducible exact ih0 _ _ _ _)
   | (with_reducible exact LeO.refl _)
   | (with_reducible exact LeO.none _)
   | (with_reducible refine LeO.ite ?_ ?_)
   | (with_reducible refine LeO.bind ?_ (fun _=>?_))
   | exact ih0 _ _ _ _
   | exact LeO.none _
   | refine LeO.ite ?_ ?_
   | refine LeO.bind ?_ (fun _=>?_)
theorem numnahref01_decides.calls (k:Nat) (a0:ByteArray) (a1:Int) (a2:Int) (r:Bool) (w:World) (h:numnahref01_decides.f k a0 a1 a2 = some r) :
  Calls Try.prog 89 #[.string a0,.int .i64 a1,.int .i64 a2] w fun e w'=>e = .returned (.bool r) ∧ Drawn0 w w':=by
 have H:(numnahref01_decides.l0 k a0 a1 a2 0) = some r:=h
 clear h
 have H':=Aside0.mk H
 clear H
 go_enter Try.func89,Try.ntmps89
 go_wp2
 repeat (go_quiet (fail);try go_wp2)
 go_loopg [7] k (fun kq v7 w'=>∃ (x7_1:Int),v7 = .int .i64 x7_1 ∧ Aside0 (numnahref01_decides.l0 kq a0 a1 a2 x7_1 = some r) ∧ Aside0 (kq ≤ k) ∧ Drawn0 w w')
 case atStart=>exact ⟨(0),(by first | rfl | (simp;done) | (simp [*];done)),H',⟨Nat.le_refl _⟩,by repeat (first | exact Drawn0.refl _ | apply Drawn0.step)⟩
 case round =>
  clear H'
  try clear p2
  obtain ⟨x7_1,rfl,HA,HK1,⟨m1,rfl⟩⟩:=hrel
  cases gk with
  | zero=>exact absurd HA.out (by simp [numnahref01_decides.l0])
  | succ k1 =>
   have H:=HA.out
   clear HA
   simp only [numnahref01_decides.l0] at H
   by_cases c4:x7_1 < (a0.size:Int)
   case neg =>
    rw [if_neg c4] at H
    have c4b0:decide (x7_1 < (a0.size:Int)) = false:=decide_eq_false c4
    clear c4
    obtain rfl:=Option.some.inj H
    go_wp2
    repeat (go_quiet (fail);try go_wp2)
    go_ret
    exact ⟨by first | rfl | (simp;done) | (simp [*];done),by repeat (first | exact Drawn0.refl _ | apply Drawn0.step)⟩
   rw [if_pos c4] at H
   have c4b0:decide (x7_1 < (a0.size:Int)) = true:=decide_eq_true c4
   clear c4
   by_cases c5:(Go.bits .and .i64 (Go.bits .xor .i64 a1 x7_1) a2) = 0
   case neg =>
    rw [if_neg c5] at H
    have c5b0:((Go.bits .and .i64 (Go.bits .xor .i64 a1 x7_1) a2) == 0) = false:=beq_eq_false_iff_ne.mpr c5
    have c5b1:((Go.bits .and .i64 (Go.bits .xor .i64 a1 x7_1) a2) != 0) = true:=bne_iff_ne.mpr c5
    have H':=Aside0.mk H
    clear H
    go_wp2
    repeat (go_quiet (fail);try go_wp2)
    go_roundg k1
    case measure=>have:=HK1.out;omega
    case rel=>exact ⟨(wrap64 (x7_1 + 1)),(by first | rfl | (simp;done) | (simp [*];done)),H',⟨by have:=HK1.out;omega⟩,by repeat (first | exact Drawn0.refl _ | apply Drawn0.step)⟩
   rw [if_pos c5] at H
   have c5b0:((Go.bits .and .i64 (Go.bits .xor .i64 a1 x7_1) a2) == 0) = true:=beq_iff_eq.mpr c5
   have c5b1:((Go.bits .and .i64 (Go.bits .xor .i64 a1 x7_1) a2) != 0) = false:=bne_eq_false_iff_eq.mpr c5
   clear c5
   by_cases c6:0 ≤ x7_1
   case neg =>
    rw [if_neg c6] at H
    exact absurd H (by simp)
   rw [if_pos c6] at H
   have c6b0:decide (0 ≤ x7_1) = true:=decide_eq_true c6
   clear c6
   by_cases c8:0 ≤ a1
   case neg =>
    rw [if_neg c8] at H
    exact absurd H (by simp)
   rw [if_pos c8] at H
   have c8b0:decide (0 ≤ a1) = true:=decide_eq_true c8
   clear c8
   by_cases c9:a1 < (a0.size:Int)
   case neg =>
    rw [if_neg c9] at H
    exact absurd H (by simp)
   rw [if_pos c9] at H
   have c9b0:decide (a1 < (a0.size:Int)) = true:=decide_eq_true c9
   clear c9
   by_cases c11:(bt a0 x7_1) = (bt a0 a1)
   case neg =>
    rw [if_neg c11] at H
    have c11b0:((bt a0 x7_1) == (bt a0 a1)) = false:=beq_eq_false_iff_ne.mpr c11
    have c11b1:((bt a0 x7_1) != (bt a0 a1)) = true:=bne_iff_ne.mpr c11
    obtain rfl:=Option.some.inj H
    have p7:0 ≤ (x7_1:Int):=of_decide_eq_true (by first | (with_reducible assumption) | assumption)
    have q7:x7_1 < (a0.size:Int):=of_decide_eq_true (by first | (with_reducible assumption) | assumption)
    have hx7:=bt_at a0 x7_1
    replace p7:=eq_true p7
    replace q7:=eq_true q7
    have p10:0 ≤ (a1:Int):=of_decide_eq_true (by first | (with_reducible assumption) | assumption)
    have q10:a1 < (a0.size:Int):=of_decide_eq_true (by first | (with_reducible assumption) | assumption)
    have hx10:=bt_at a0 a1
    replace p10:=eq_true p10
    replace q10:=eq_true q10
    go_wp2
    repeat (go_quiet (fail);try go_wp2)
    go_ret
    exact ⟨by first | rfl | (simp;done) | (simp [*];done),by repeat (first | exact Drawn0.refl _ | apply Drawn0.step)⟩
   rw [if_pos c11] at H
   have c11b0:((bt a0 x7_1) == (bt a0 a1)) = true:=beq_iff_eq.mpr c11
   have c11b1:((bt a0 x7_1) != (bt a0 a1)) = false:=bne_eq_false_iff_eq.mpr c11
   clear c11
   have H':=Aside0.mk H
   clear H
   have p7:0 ≤ (x7_1:Int):=of_decide_eq_true (by first | (with_reducible assumption) | assumption)
   have q7:x7_1 < (a0.size:Int):=of_decide_eq_true (by first | (with_reducible assumption) | assumption)
   have hx7:=bt_at a0 x7_1
   replace p7:=eq_true p7
   replace q7:=eq_true q7
   have p10:0 ≤ (a1:Int):=of_decide_eq_true (by first | (with_reducible assumption) | assumption)
   have q10:a1 < (a0.size:Int):=of_decide_eq_true (by first | (with_reducible assumption) | assumption)
   have hx10:=bt_at a0 a1
   replace p10:=eq_true p10
   replace q10:=eq_true q10
   go_wp2
   repeat (go_quiet (fail);try go_wp2)
   go_roundg k1
   case measure=>have:=HK1.out;omega
   case rel=>exact ⟨(wrap64 (x7_1 + 1)),(by first | rfl | (simp;done) | (simp [*];done)),H',⟨by have:=HK1.out;omega⟩,by repeat (first | exact Drawn0.refl _ | apply Drawn0.step)⟩
mutual
def numnahref01_Measures.l0:Nat → ByteArray → Int → ByteArray → Int → Int → Int → Int → Int → Option (Int × Int × Int × Int)
 | 0,_,_,_,_,_,_,_,_=>none
 | k + 1,x0,x3,x5,x6,x446000,x446001,x446002,x446003=>if x6 < (x0.size:Int) then (if 0 ≤ x6 then (if x6 < (x5.size:Int) then (if (bt x5 x6) = 49 then ((numnahref01_digits.f k x6).bind fun t447=>(numnahref01_Measures.j1 k x0 x3 x5 x6 (mx x446000 t447) x446001 x446002 x446003)) else (numnahref01_Measures.j1 k x0 x3 x5 x6 x446000 x446001 x446002 x446003)) else (none)) else (none)) else (some (x446000,x446001,x446002,x446003))
def numnahref01_Measures.j1:Nat → ByteArray → Int → ByteArray → Int → Int → Int → Int → Int → Option (Int × Int × Int × Int)
 | 0,_,_,_,_,_,_,_,_=>none
 | k + 1,x0,x3,x5,x6,x446000,x446001,x446002,x446003=>if 0 ≤ x6 then (if x6 < (x0.size:Int) then (if (bt x0 x6) = 49 then (numnahref01_Measures.j2 k x0 x3 x5 x6 x446000 x446001 x446002 (wrap64 (x446003 + 1))) else (numnahref01_Measures.j2 k x0 x3 x5 x6 x446000 x446001 x446002 x446003)) else (none)) else (none)
def numnahref01_Measures.j2:Nat → ByteArray → Int → ByteArray → Int → Int → Int → Int → Int → Option (Int × Int × Int × Int)
 | 0,_,_,_,_,_,_,_,_=>none
 | k + 1,x0,x3,x5,x6,x446000,x446001,x446002,x446003=>numnahref01_Measures.l1 k x0 x3 x5 x6 0 x3 0 x446000 x446001 x446002 x446003
def numnahref01_Measures.l1:Nat → ByteArray → Int → ByteArray → Int → Int → Int → Int → Int → Int → Int → Int → Option (Int × Int × Int × Int)
 | 0,_,_,_,_,_,_,_,_,_,_,_=>none
 | k + 1,x0,x3,x5,x6,x7,x8,x9,x446000,x446001,x446002,x446003=>if x9 < x3 then (if 0 ≤ x6 then (if x6 < (x0.size:Int) then (if 0 ≤ x9 then (if 0 ≤ (Go.bits .xor .i64 x6 (shl .i64 1 x9)) then (if (Go.bits .xor .i64 x6 (shl .i64 1 x9)) < (x0.size:Int) then (if (bt x0 x6) = (bt x0 (Go.bits .xor .i64 x6 (shl .i64 1 x9))) then (numnahref01_Measures.l1 k x0 x3 x5 x6 x7 x8 (wrap64 (x9 + 1)) x446000 x446001 x446002 x446003) else (numnahref01_Measures.l1 k x0 x3 x5 x6 (wrap64 (x7 + 1)) x8 (wrap64 (x9 + 1)) x446000 x446001 x446002 x446003)) else (none)) else (none)) else (none)) else (none)) else (none)) else (numnahref01_Measures.l2 k x0 x3 x5 x6 x7 x8 0 x446000 x446001 x446002 x446003)
def numnahref01_Measures.l2:Nat → ByteArray → Int → ByteArray → Int → Int → Int → Int → Int → Int → Int → Int → Option (Int × Int × Int × Int)
 | 0,_,_,_,_,_,_,_,_,_,_,_=>none
 | k + 1,x0,x3,x5,x6,x7,x8,x10,x446000,x446001,x446002,x446003=>if 0 ≤ x3 then (if x10 < (shl .i64 1 x3) then ((numnahref01_digits.f k x10).bind fun t448=>(if t448 < x8 then ((numnahref01_decides.f k x0 x6 x10).bind fun t449=>(if t449 = true then ((numnahref01_digits.f k x10).bind fun t450=>(numnahref01_Measures.l2 k x0 x3 x5 x6 x7 t450 (wrap64 (x10 + 1)) x446000 x446001 x446002 x446003)) else (numnahref01_Measures.l2 k x0 x3 x5 x6 x7 x8 (wrap64 (x10 + 1)) x446000 x446001 x446002 x446003))) else (numnahref01_Measures.l2 k x0 x3 x5 x6 x7 x8 (wrap64 (x10 + 1)) x446000 x446001 x446002 x446003))) else (numnahref01_Measures.l0 k x0 x3 x5 (wrap64 (x6 + 1)) x446000 (mx x446001 x7) (mx x446002 x8) x446003)) else (none)
end
def numnahref01_Measures.f (k:Nat) (a0:ByteArray):Option (Int × Int × Int × Int):=(numnahref01_Vars.f k a0).bind fun t444=>((numnahref01_Sum.f k a0).bind fun t446=>(numnahref01_Measures.l0 k a0 t444 t446 0 0 0 0 0))
theorem numnahref01_Measures.mono_l:∀ k,(∀ y0 y1 y2 y3 y4 y5 y6 y7,LeO (numnahref01_Measures.l0 k y0 y1 y2 y3 y4 y5 y6 y7) (numnahref01_Measures.l0 (k + 1) y0 y1 y2 y3 y4 y5 y6 y7)) ∧ (∀ y0 y1 y2 y3 y4 y5 y6 y7,LeO (numnahref01_Measures.j1 k y0 y1 y2 y3 y4 y5 y6 y7) (numnahref01_Measures.j1 (k + 1) y0 y1 y2 y3 y4 y5 y6 y7)) ∧ (∀ y0 y1 y2 y3 y4 y5 y6 y7,LeO (numnahref01_Measures.j2 k y0 y1 y2 y3 y4 y5 y6 y7) (numnahref01_Measures.j2 (k + 1) y0 y1 y2 y3 y4 y5 y6 y7)) ∧ (∀ y0 y1 y2 y3 y4 y5 y6 y7 y8 y9 y10,LeO (numnahref01_Measures.l1 k y0 y1 y2 y3 y4 y5 y6 y7 y8 y9 y10) (numnahref01_Measures.l1 (k + 1) y0 y1 y2 y3 y4 y5 y6 y7 y8 y9 y10)) ∧ (∀ y0 y1 y2 y3 y4 y5 y6 y7 y8 y9 y10,LeO (numnahref01_Measures.l2 k y0 y1 y2 y3 y4 y5 y6 y7 y8 y9 y10) (numnahref01_Measures.l2 (k + 1) y0 y1 y2 y3 y4 y5 y6 y7 y8 y9 y10))
 | 0=>⟨fun _ _ _ _ _ _ _ _ r h=>by simp [numnahref01_Measures.l0] at h,fun _ _ _ _ _ _ _ _ r h=>by simp [numnahref01_Measures.j1] at h,fun _ _ _ _ _ _ _ _ r h=>by simp [numnahref01_Measures.j2] at h,fun _ _ _ _ _ _ _ _ _ _ _ r h=>by simp [numnahref01_Measures.l1] at h,fun _ _ _ _ _ _ _ _ _ _ _ r h=>by simp [numnahref01_Measures.l2] at h⟩
 | k + 1=>by
  obtain ⟨ih0,ih1,ih2,ih3,ih4⟩:=numnahref01_Measures.mono_l k
  refine ⟨?_,?_,?_,?_,?_⟩
  ·intro y0 y1 y2 y3 y4 y5 y6 y7
   unfold numnahref01_Measures.l0
   repeat' first
   | (with_reducible exact ih0 _ _ _ _ _ _ _ _)
   | (with_reducible exact ih1 _ _ _ _ _ _ _ _)
   | (with_reducible exact ih2 _ _ _ _ _ _ _ _)
   | (with_reducible exact ih3 _ _ _ _ _ _ _ _ _ _ _)
   | (with_reducible exact ih4 _ _ _ _ _ _ _ _ _ _ _)
   | (with_reducible exact numnahref01_Sum.mono _ _)
   | (with_reducible exact numnahref01_Vars.mono _ _)
   | (with_reducible exact numnahref01_decides.mono _ _ _ _)
   | (with_reducible exact numnahref01_digits.mono _ _)
   | (with_reducible exact LeO.refl _)
   | (with_reducible exact LeO.none _)
   | (with_reducible refine LeO.ite ?_ ?_)
   | (with_reducible refine LeO.bind ?_ (fun _=>?_))
   | exact ih0 _ _ _ _ _ _ _ _
   | exact ih1 _ _ _ _ _ _ _ _
   | exact ih2 _ _ _ _ _ _ _ _
   | exact ih3 _ _ _ _ _ _ _ _ _ _ _
   | exact ih4 _ _ _ _ _ _ _ _ _ _ _
   | exact numnahref01_Sum.mono _ _
   | exact numnahref01_Vars.mono _ _
   | exact numnahref01_decides.mono _ _ _ _
   | exact numnahref01_digits.mono _ _
   | exact LeO.none _
   | refine LeO.ite ?_ ?_
   | refine LeO.bind ?_ (fun _=>?_)
  ·intro y0 y1 y2 y3 y4 y5 y6 y7
   unfold numnahref01_Measures.j1
   repeat' first
   | (with_reducible exact ih0 _ _ _ _ _ _ _ _)
   | (with_reducible exact ih1 _ _ _ _ _ _ _ _)
   | (with_reducible exact ih2 _ _ _ _ _ _ _ _)
   | (with_reducible exact ih3 _ _ _ _ _ _ _ _ _ _ _)
   | (with_reducible exact ih4 _ _ _ _ _ _ _ _ _ _ _)
   | (with_reducible exact numnahref01_Sum.mono _ _)
   | (with_reducible exact numnahref01_Vars.mono _ _)
   | (with_reducible exact numnahref01_decides.mono _ _ _ _)
   | (with_reducible exact numnahref01_digits.mono _ _)
   | (with_reducible exact LeO.refl _)
   | (with_reducible exact LeO.none _)
   | (with_reducible refine LeO.ite ?_ ?_)
   | (with_reducible refine LeO.bind ?_ (fun _=>?_))
   | exact ih0 _ _ _ _ _ _ _ _
   | exact ih1 _ _ _ _ _ _ _ _
   | exact ih2 _ _ _ _ _ _ _ _
   | exact ih3 _ _ _ _ _ _ _ _ _ _ _
   | exact ih4 _ _ _ _ _ _ _ _ _ _ _
   | exact numnahref01_Sum.mono _ _
   | exact numnahref01_Vars.mono _ _
   | exact numnahref01_decides.mono _ _ _ _
   | exact numnahref01_digits.mono _ _
   | exact LeO.none _
   | refine LeO.ite ?_ ?_
   | refine LeO.bind ?_ (fun _=>?_)
  ·intro y0 y1 y2 y3 y4 y5 y6 y7
   unfold numnahref01_Measures.j2
   repeat' first
   | (with_reducible exact ih0 _ _ _ _ _ _ _ _)
   | (with_reducible exact ih1 _ _ _ _ _ _ _ _)
   | (with_reducible exact ih2 _ _ _ _ _ _ _ _)
   | (with_reducible exact ih3 _ _ _ _ _ _ _ _ _ _ _)
   | (with_reducible exact ih4 _ _ _ _ _ _ _ _ _ _ _)
   | (with_reducible exact numnahref01_Sum.mono _ _)
   | (with_reducible exact numnahref01_Vars.mono _ _)
   | (with_reducible exact numnahref01_decides.mono _ _ _ _)
   | (with_reducible exact numnahref01_digits.mono _ _)
   | (with_reducible exact LeO.refl _)
   | (with_reducible exact LeO.none _)
   | (with_reducible refine LeO.ite ?_ ?_)
   | (with_reducible refine LeO.bind ?_ (fun _=>?_))
   | exact ih0 _ _ _ _ _ _ _ _
   | exact ih1 _ _ _ _ _ _ _ _
   | exact ih2 _ _ _ _ _ _ _ _
   | exact ih3 _ _ _ _ _ _ _ _ _ _ _
   | exact ih4 _ _ _ _ _ _ _ _ _ _ _
   | exact numnahref01_Sum.mono _ _
   | exact numnahref01_Vars.mono _ _
   | exact numnahref01_decides.mono _ _ _ _
   | exact numnahref01_digits.mono _ _
   | exact LeO.none _
   | refine LeO.ite ?_ ?_
   | refine LeO.bind ?_ (fun _=>?_)
  ·intro y0 y1 y2 y3 y4 y5 y6 y7 y8 y9 y10
   unfold numnahref01_Measures.l1
   repeat' first
   | (with_reducible exact ih0 _ _ _ _ _ _ _ _)
   | (with_reducible exact ih1 _ _ _ _ _ _ _ _)
   | (with_reducible exact ih2 _ _ _ _ _ _ _ _)
   | (with_reducible exact ih3 _ _ _ _ _ _ _ _ _ _ _)
   | (with_reducible exact ih4 _ _ _ _ _ _ _ _ _ _ _)
   | (with_reducible exact numnahref01_Sum.mono _ _)
   | (with_reducible exact numnahref01_Vars.mono _ _)
   | (with_reducible exact numnahref01_decides.mono _ _ _ _)
   | (with_reducible exact numnahref01_digits.mono _ _)
   | (with_reducible exact LeO.refl _)
   | (with_reducible exact LeO.none _)
   | (with_reducible refine LeO.ite ?_ ?_)
   | (with_reducible refine LeO.bind ?_ (fun _=>?_))
   | exact ih0 _ _ _ _ _ _ _ _
   | exact ih1 _ _ _ _ _ _ _ _
   | exact ih2 _ _ _ _ _ _ _ _
   | exact ih3 _ _ _ _ _ _ _ _ _ _ _
   | exact ih4 _ _ _ _ _ _ _ _ _ _ _
   | exact numnahref01_Sum.mono _ _
   | exact numnahref01_Vars.mono _ _
   | exact numnahref01_decides.mono _ _ _ _
   | exact numnahref01_digits.mono _ _
   | exact LeO.none _
   | refine LeO.ite ?_ ?_
   | refine LeO.bind ?_ (fun _=>?_)
  intro y0 y1 y2 y3 y4 y5 y6 y7 y8 y9 y10
  unfold numnahref01_Measures.l2
  repeat' first
  | (with_reducible exact ih0 _ _ _ _ _ _ _ _)
  | (with_reducible exact ih1 _ _ _ _ _ _ _ _)
  | (with_reducible exact ih2 _ _ _ _ _ _ _ _)
  | (with_reducible exact ih3 _ _ _ _ _ _ _ _ _ _ _)
  | (with_reducible exact ih4 _ _ _ _ _ _ _ _ _ _ _)
  | (with_reducible exact numnahref01_Sum.mono _ _)
  | (with_reducible exact numnahref01_Vars.mono _ _)
  | (with_reducible exact numnahref01_decides.mono _ _ _ _)
  | (with_reducible exact numnahref01_digits.mono _ _)
  | (with_reducible exact LeO.refl _)
  | (with_reducible exact LeO.none _)
  | (with_reducible refine LeO.ite ?_ ?_)
  | (with_reducible refine LeO.bind ?_ (fun _=>?_))
  | exact ih0 _ _ _ _ _ _ _ _
  | exact ih1 _ _ _ _ _ _ _ _
  | exact ih2 _ _ _ _ _ _ _ _
  | exact ih3 _ _ _ _ _ _ _ _ _ _ _
  | exact ih4 _ _ _ _ _ _ _ _ _ _ _
  | exact numnahref01_Sum.mono _ _
  | exact numnahref01_Vars.mono _ _
  | exact numnahref01_decides.mono _ _ _ _
  | exact numnahref01_digits.mono _ _
  | exact LeO.none _
  | refine LeO.ite ?_ ?_
  | refine LeO.bind ?_ (fun _=>?_)
theorem numnahref01_Measures.mono:∀ a0 k,LeO (numnahref01_Measures.f k a0) (numnahref01_Measures.f (k + 1) a0):=by
 intro a0 k
 obtain ⟨ih0,ih1,ih2,ih3,ih4⟩:=numnahref01_Measures.mono_l k
 unfold numnahref01_Measures.f
 repeat' first
   | (with_reducible exact ih0 _ _ _ _ _ _ _ _)
   | (with_reducible exact ih1 _ _ _ _ _ _ _ _)
   | (with_reducible exact ih2 _ _ _ _ _ _ _ _)
   | (with_reducible exact ih3 _ _ _ _ _ _ _ _ _ _ _)
   | (with_reducible exact ih4 _ _ _ _ _ _ _ _ _ _ _)
   | (with_reducible exact numnahref01_Sum.mono _ _)
   | (with_reducible exact numnahref01_Vars.mono _ _)
   | (with_reducible exact numnahref01_decides.mono _ _ _ _)
   | (with_reducible exact numnahref01_digits.mono _ _)
   | (with_reducible exact LeO.refl _)
   | (with_reducible exact LeO.none _)
   | (with_reducible refine LeO.ite ?_ ?_)
   | (with_reducible refine LeO.bind ?_ (fun _=>?_))
   | exact ih0 _ _ _ _ _ _ _ _
   | exact ih1 _ _ _ _ _ _ _ _
   | exact ih2 _ _ _ _ _ _ _ _
   | exact ih3 _ _ _ _ _ _ _ _ _ _ _
   | exact ih4 _ _ _ _ _ _ _ _ _ _ _
   | exact numnahref01_Sum.mono _ _
   | exact numnahref01_Vars.mono _ _
   | exact numnahref01_decides.mono _ _ _ _
   | exact numnahref01_digits.mono _ _
   | exact LeO.none _
   | refine LeO.ite ?_ ?_
   | refine LeO.bind ?_ (fun _=>?_)
def numnahref01_Measures.T15:Bool × List (List Nat × List Nat):=(true,[([],[]),([],[]),([0,1],[0,1]),([],[]),([],[]),([],[]),([5],[5]),([4,6],[4,6]),([3,7],[3,7]),([2,8],[2,8])])
def numnahref01_Measures.B15:List Nat:=[0,0,3,0,0,0,32,112,248,511]
theorem numnahref01_Measures.tab15:rtab .any (opsOf Try.f53 15) = numnahref01_Measures.T15:=by kernel_rfl
theorem numnahref01_Measures.bits15:waitsOk numnahref01_Measures.T15.2 numnahref01_Measures.B15 = true:=by kernel_rfl
theorem numnahref01_Measures.calls (k:Nat) (a0:ByteArray) (r1:Int) (r2:Int) (r3:Int) (r4:Int) (w:World) (h:numnahref01_Measures.f k a0 = some (r1,r2,r3,r4)) :
  Calls Try.prog 53 #[.string a0] w fun e w'=>e = .returned (.agg #[.int .i64 r1,.int .i64 r2,.int .i64 r3,.int .i64 r4]) ∧ Below w.heap.size w w':=by
 have hu65:=Try.underlying65
 have HB:=Aside0.mk (Below.refl w.heap.size w)
 have H:((numnahref01_Vars.f k a0).bind fun t444=>((numnahref01_Sum.f k a0).bind fun t446=>(numnahref01_Measures.l0 k a0 t444 t446 0 0 0 0 0))) = some (r1,r2,r3,r4):=h
 clear h
 replace H:=Option.bind_eq_some_iff.mp H
 obtain ⟨t444,A20,H⟩:=H
 replace H:((numnahref01_Sum.f k a0).bind fun t446=>(numnahref01_Measures.l0 k a0 t444 t446 0 0 0 0 0)) = some (r1,r2,r3,r4):=H
 have A2:=Aside0.mk A20
 clear A20
 replace H:=Option.bind_eq_some_iff.mp H
 obtain ⟨t446,A30,H⟩:=H
 replace H:(numnahref01_Measures.l0 k a0 t444 t446 0 0 0 0 0) = some (r1,r2,r3,r4):=H
 have A3:=Aside0.mk A30
 clear A30
 have H':=Aside0.mk H
 clear H
 go_enter Try.func53,Try.ntmps53
 go_wp2_with (first | ((with_reducible refine gate_dst (N:=2) rfl ?_);refine box_event ?hg (N:=2) ?hd (cs:=#[.int .i64 0,.int .i64 0,.int .i64 0,.int .i64 0]) (t:=65) ?hr ?_;(case hd=>rfl);(case hg=>rfl);(case hr=>first | (go_simp;done) | (go_simp;rfl));intro gb443 hg w4 hbox hb;have n0_:=Aside0.mk (below_step (by repeat (first | (with_reducible first | exact HB.out | apply below_alloc | apply pw_below_drewN | apply below_drew1) | exact HB.out)) hb);have n1_:=Aside0.mk (hbox);have n2_:=Aside0.mk ((by rw [hg];exact (below_size (by repeat (first | (with_reducible first | exact HB.out | apply below_alloc | apply pw_below_drewN | apply below_drew1) | exact HB.out))):w.heap.size ≤ gb443));have n3_:=Aside0.mk ((by rw [hg];exact (below_size (by repeat (first | (with_reducible first | exact HB.out | apply below_alloc | apply pw_below_drewN | apply below_drew1) | exact HB.out))):w.heap.size ≤ gb443));clear HB;have HB:=n0_;have BK443:=n1_;have GW443:=n2_;have GE443:=n3_;clear n0_ n1_ n2_ n3_;clear hb hbox hg) | ((with_reducible refine gate_callee (f:=24) rfl ?_);refine goesL_ (some 12) rfl rfl Try.func24 (by kernel_rfl) rfl #[.string a0] rfl (by (try simp only [List.map_toArray,List.map_cons,List.map_nil]);first | done | rfl | (simp only [List.length_drop,List.length_take];rfl)) ?_;(with_reducible refine (numnahref01_Vars.calls k a0 t444 _ A2.out).mono ?_);rintro e w' ⟨rfl,⟨nd,rfl⟩⟩;refine ⟨_,rfl,?_⟩) | ((with_reducible refine gate_dst (N:=4) rfl ?_);refine box_event ?hg (N:=4) ?hd (cs:=#[.int .i64 0,.int .i64 0,.int .i64 0,.int .i64 0]) (t:=65) ?hr ?_;(case hd=>rfl);(case hg=>rfl);(case hr=>first | (go_simp;done) | (go_simp;rfl));intro gb445 hg w5 hbox hb;have n0_:=Aside0.mk (blk_below (g:=gb443) (o:=.cells #[.int .i64 0,.int .i64 0,.int .i64 0,.int .i64 0] 65 (0,0)) (by (with_reducible repeat (first | refine blk_drewN ?_ _ | refine blk_drew ?_ | refine blk_alloc ?_ _));exact BK443.out) hb);have n1_:=Aside0.mk (below_step (by repeat (first | (with_reducible first | exact HB.out | apply below_alloc | apply pw_below_drewN | apply below_drew1 | refine below_set ?_ GE443.out) | exact HB.out)) hb);have n2_:=Aside0.mk (hbox);have n3_:=Aside0.mk ((by rw [hg];exact (below_size (by repeat (first | (with_reducible first | exact HB.out | apply below_alloc | apply pw_below_drewN | apply below_drew1 | refine below_set ?_ GE443.out) | exact HB.out))):w.heap.size ≤ gb445));have n4_:=Aside0.mk ((by rw [hg];exact (below_size (by repeat (first | (with_reducible first | exact HB.out | apply below_alloc | apply pw_below_drewN | apply below_drew1 | refine below_set ?_ GE443.out) | exact HB.out))):w.heap.size ≤ gb445));have n5_:=Aside0.mk ((by rw [hg];exact Nat.ne_of_lt (blk_lt (g:=gb443) (o:=.cells #[.int .i64 0,.int .i64 0,.int .i64 0,.int .i64 0] 65 (0,0)) (by (with_reducible repeat (first | refine blk_drewN ?_ _ | refine blk_drew ?_ | refine blk_alloc ?_ _));exact BK443.out)):gb443 ≠ gb445));have n6_:=Aside0.mk ((by rw [hg];exact Nat.ne_of_gt (blk_lt (g:=gb443) (o:=.cells #[.int .i64 0,.int .i64 0,.int .i64 0,.int .i64 0] 65 (0,0)) (by (with_reducible repeat (first | refine blk_drewN ?_ _ | refine blk_drew ?_ | refine blk_alloc ?_ _));exact BK443.out)):gb445 ≠ gb443));clear BK443;clear HB;have BK443:=n0_;have HB:=n1_;have BK445:=n2_;have GW445:=n3_;have GE445:=n4_;have NB443_445:=n5_;have NB445_443:=n6_;clear n0_ n1_ n2_ n3_ n4_ n5_ n6_;clear hb hbox hg) | ((with_reducible refine gate_callee (f:=52) rfl ?_);refine goesL_ (some 14) rfl rfl Try.func52 (by kernel_rfl) rfl #[.string a0] rfl (by (try simp only [List.map_toArray,List.map_cons,List.map_nil]);first | done | rfl | (simp only [List.length_drop,List.length_take];rfl)) ?_;(with_reducible refine (numnahref01_Sum.calls k a0 t446 _ A3.out).mono ?_);rintro e w6 ⟨rfl,hb⟩;refine ⟨_,rfl,?_⟩;have n0_:=Aside0.mk (blk_below (g:=gb443) (o:=.cells #[.int .i64 0,.int .i64 0,.int .i64 0,.int .i64 0] 65 (0,0)) (by (with_reducible repeat (first | refine blk_drewN ?_ _ | refine blk_drew ?_ | refine blk_alloc ?_ _));exact BK443.out) hb);have n1_:=Aside0.mk (blk_below (g:=gb445) (o:=.cells #[.int .i64 0,.int .i64 0,.int .i64 0,.int .i64 0] 65 (0,0)) (by (with_reducible repeat (first | refine blk_drewN ?_ _ | refine blk_drew ?_ | refine blk_alloc ?_ _));exact BK445.out) hb);have n2_:=Aside0.mk (below_step (by repeat (first | (with_reducible first | exact HB.out | apply below_alloc | apply pw_below_drewN | apply below_drew1 | refine below_set ?_ GE443.out | refine below_set ?_ GE445.out) | exact HB.out)) hb);clear BK443;clear BK445;clear HB;have BK443:=n0_;have BK445:=n1_;have HB:=n2_;clear n0_ n1_ n2_;(try clear hb)))
 go_loopg [6] k (fun kq v6 w'=>∃ (x6_1:Int) (x446000_1:Int) (x446001_1:Int) (x446002_1:Int) (x446003_1:Int),v6 = .int .i64 x6_1 ∧ Aside0 (numnahref01_Measures.l0 kq a0 t444 t446 x6_1 x446000_1 x446001_1 x446002_1 x446003_1 = some (r1,r2,r3,r4)) ∧ Aside0 (kq ≤ k) ∧ Aside0 (w'.heap[gb443]? = some (.cells #[.int .i64 0,.int .i64 0,.int .i64 0,.int .i64 0] 65 (0,0))) ∧ Aside0 (w'.heap[gb445]? = some (.cells #[.int .i64 x446000_1,.int .i64 x446001_1,.int .i64 x446002_1,.int .i64 x446003_1] 65 (0,0))) ∧ Aside0 (Below w.heap.size w w'))
 case atStart=>exact ⟨(0),(0),(0),(0),(0),(by first | rfl | (simp;done) | (simp [*];done)),H',⟨Nat.le_refl _⟩,⟨by (with_reducible repeat (first | refine blk_drewN ?_ _ | refine blk_drew ?_ | refine blk_alloc ?_ _));exact BK443.out⟩,⟨by (with_reducible repeat (first | refine blk_drewN ?_ _ | refine blk_drew ?_ | refine blk_alloc ?_ _));exact BK445.out⟩,⟨by repeat (first | (with_reducible first | exact HB.out | apply below_alloc | apply pw_below_drewN | apply below_drew1 | refine below_set ?_ GE443.out | refine below_set ?_ GE445.out) | exact HB.out)⟩⟩
 case round =>
  clear H'
  try clear c2
  try clear p2
  try clear c5
  obtain ⟨x6_1,x446000_1,x446001_1,x446002_1,x446003_1,rfl,HA,HK1,BK443,BK445,HB⟩:=hrel
  cases gk with
  | zero=>exact absurd HA.out (by simp [numnahref01_Measures.l0])
  | succ k1 =>
   have H:=HA.out
   clear HA
   simp only [numnahref01_Measures.l0] at H
   by_cases c7:x6_1 < (a0.size:Int)
   case neg =>
    rw [if_neg c7] at H
    have c7b0:decide (x6_1 < (a0.size:Int)) = false:=decide_eq_false c7
    clear c7
    simp only [Option.some.injEq,Prod.mk.injEq] at H
    obtain ⟨rfl,rfl,rfl,rfl⟩:=H
    have hnb48:=NB445_443.out
    have hnc48:=NB443_445.out
    have hcz49_0:wr.cell? ⟨gb445,0,none⟩ = some (.int .i64 x446000_1):=(blk_cell BK445.out 0).trans rfl
    have hcz49_1:wr.cell? ⟨gb445,1,none⟩ = some (.int .i64 x446001_1):=(blk_cell BK445.out 1).trans rfl
    have hcz49_2:wr.cell? ⟨gb445,2,none⟩ = some (.int .i64 x446002_1):=(blk_cell BK445.out 2).trans rfl
    have hcz49_3:wr.cell? ⟨gb445,3,none⟩ = some (.int .i64 x446003_1):=(blk_cell BK445.out 3).trans rfl
    have hfz49_0:=blk_frozen BK445.out 0
    have hfz49_1:=blk_frozen BK445.out 1
    have hfz49_2:=blk_frozen BK445.out 2
    have hfz49_3:=blk_frozen BK445.out 3
    have hcz50_0:wr.cell? ⟨gb443,0,none⟩ = some (.int .i64 0):=(blk_cell BK443.out 0).trans rfl
    have hcz50_1:wr.cell? ⟨gb443,1,none⟩ = some (.int .i64 0):=(blk_cell BK443.out 1).trans rfl
    have hcz50_2:wr.cell? ⟨gb443,2,none⟩ = some (.int .i64 0):=(blk_cell BK443.out 2).trans rfl
    have hcz50_3:wr.cell? ⟨gb443,3,none⟩ = some (.int .i64 0):=(blk_cell BK443.out 3).trans rfl
    have hfz50_0:=blk_frozen BK443.out 0
    have hfz50_1:=blk_frozen BK443.out 1
    have hfz50_2:=blk_frozen BK443.out 2
    have hfz50_3:=blk_frozen BK443.out 3
    go_wp2
    refine bodyPost_ret (results_cell_row rfl _ _ gb443 65 #[.int .i64 x446000_1,.int .i64 x446001_1,.int .i64 x446002_1,.int .i64 x446003_1] (0,0) _ rfl (by (with_reducible repeat (first | refine blk_drewN ?_ _ | refine blk_drew ?_ | refine blk_alloc ?_ _));refine blk_put (cs:=#[.int .i64 x446000_1,.int .i64 x446001_1,.int .i64 x446002_1,.int .i64 0]) ?_ 3 _ rfl;(with_reducible repeat (first | refine blk_drewN ?_ _ | refine blk_drew ?_ | refine blk_alloc ?_ _));refine blk_put (cs:=#[.int .i64 x446000_1,.int .i64 x446001_1,.int .i64 0,.int .i64 0]) ?_ 2 _ rfl;(with_reducible repeat (first | refine blk_drewN ?_ _ | refine blk_drew ?_ | refine blk_alloc ?_ _));refine blk_put (cs:=#[.int .i64 x446000_1,.int .i64 0,.int .i64 0,.int .i64 0]) ?_ 1 _ rfl;(with_reducible repeat (first | refine blk_drewN ?_ _ | refine blk_drew ?_ | refine blk_alloc ?_ _));refine blk_put (cs:=#[.int .i64 0,.int .i64 0,.int .i64 0,.int .i64 0]) ?_ 0 _ rfl;(with_reducible repeat (first | refine blk_drewN ?_ _ | refine blk_drew ?_ | refine blk_alloc ?_ _));exact BK443.out) Try.underlying65 rfl (by kernel_rfl)) rfl ?_
    exact ⟨by first | rfl | (simp [errW_none,errW_some] <;> rfl) | (simp [*,errW_none,errW_some] <;> rfl),by repeat (first | (with_reducible first | exact HB.out | apply below_alloc | apply pw_below_drewN | apply below_drew1 | refine below_set ?_ GE443.out | refine below_set ?_ GE445.out) | exact HB.out)⟩
   rw [if_pos c7] at H
   have c7b0:decide (x6_1 < (a0.size:Int)) = true:=decide_eq_true c7
   clear c7
   by_cases c8:0 ≤ x6_1
   case neg =>
    rw [if_neg c8] at H
    exact absurd H (by simp)
   rw [if_pos c8] at H
   have c8b0:decide (0 ≤ x6_1) = true:=decide_eq_true c8
   clear c8
   by_cases c9:x6_1 < (t446.size:Int)
   case neg =>
    rw [if_neg c9] at H
    exact absurd H (by simp)
   rw [if_pos c9] at H
   have c9b0:decide (x6_1 < (t446.size:Int)) = true:=decide_eq_true c9
   clear c9
   have HC11:=Aside0.mk H
   clear H
   have p10:0 ≤ (x6_1:Int):=of_decide_eq_true (by first | (with_reducible assumption) | assumption)
   have q10:x6_1 < (t446.size:Int):=of_decide_eq_true (by first | (with_reducible assumption) | assumption)
   have hx10:=bt_at t446 x6_1
   replace p10:=eq_true p10
   replace q10:=eq_true q10
   go_upto_if 24 with (fail)
   go_cut [] (fun wc=>∃ (kq:Nat) (x446000_10:Int),Aside0 (numnahref01_Measures.j1 kq a0 t444 t446 x6_1 x446000_10 x446001_1 x446002_1 x446003_1 = some (r1,r2,r3,r4)) ∧ Aside0 (kq ≤ k1) ∧ Aside0 (wc.heap[gb443]? = some (.cells #[.int .i64 0,.int .i64 0,.int .i64 0,.int .i64 0] 65 (0,0))) ∧ Aside0 (wc.heap[gb445]? = some (.cells #[.int .i64 x446000_10,.int .i64 x446001_1,.int .i64 x446002_1,.int .i64 x446003_1] 65 (0,0))) ∧ Aside0 (Below w.heap.size w wc))
   case first =>
    have H:=HC11.out
    clear HC11
    by_cases c12:(bt t446 x6_1) = 49
    case neg =>
     rw [if_neg c12] at H
     have c12b0:((bt t446 x6_1) == 49) = false:=beq_eq_false_iff_ne.mpr c12
     have c12b1:((bt t446 x6_1) != 49) = true:=bne_iff_ne.mpr c12
     (first | rw [c12b0] | (simp only [i64_w,i32_w];rw [c12b0]) | skip)
     have H':=Aside0.mk H
     clear H
     go_wp2
     go_meet
     case rel=>exact ⟨_,(x446000_1),H',⟨by have:=HK1.out;first | omega | exact Nat.le_refl _⟩,⟨by (with_reducible repeat (first | refine blk_drewN ?_ _ | refine blk_drew ?_ | refine blk_alloc ?_ _));exact BK443.out⟩,⟨by (with_reducible repeat (first | refine blk_drewN ?_ _ | refine blk_drew ?_ | refine blk_alloc ?_ _));exact BK445.out⟩,⟨by repeat (first | (with_reducible first | exact HB.out | apply below_alloc | apply pw_below_drewN | apply below_drew1 | refine below_set ?_ GE443.out | refine below_set ?_ GE445.out) | exact HB.out)⟩⟩
    rw [if_pos c12] at H
    have c12b0:((bt t446 x6_1) == 49) = true:=beq_iff_eq.mpr c12
    have c12b1:((bt t446 x6_1) != 49) = false:=bne_eq_false_iff_eq.mpr c12
    clear c12
    (first | rw [c12b0] | (simp only [i64_w,i32_w];rw [c12b0]) | skip)
    replace H:=Option.bind_eq_some_iff.mp H
    obtain ⟨t447,A130,H⟩:=H
    replace H:(numnahref01_Measures.j1 k1 a0 t444 t446 x6_1 (mx x446000_1 t447) x446001_1 x446002_1 x446003_1) = some (r1,r2,r3,r4):=H
    have A13:=Aside0.mk A130
    clear A130
    obtain ⟨ji14,hji14⟩:∃ j_:Int,(mx x446000_1 t447) = j_:=⟨_,rfl⟩
    replace H:(numnahref01_Measures.j1 k1 a0 t444 t446 x6_1 ji14 x446001_1 x446002_1 x446003_1) = some (r1,r2,r3,r4):=by first | (rw [hji14] at H;exact H) | (simp only [hji14] at H ⊢;exact H)
    (try rw [hji14] at A13)
    have hji14_:(if x446000_1 < t447 then t447 else x446000_1) = ji14:=hji14
    have H':=Aside0.mk H
    clear H
    try go_wp2
    have n0_:=Aside0.mk (blk_drew BK443.out)
    have n1_:=Aside0.mk (blk_drew BK445.out)
    have n2_:=Aside0.mk (below_drew1 HB.out)
    clear BK443
    clear BK445
    clear HB
    have BK443:=n0_
    have BK445:=n1_
    have HB:=n2_
    clear n0_ n1_ n2_
    refine start_ (n:=7) (S:=fun w'=>w'.cell? ⟨gb445,0,none⟩ = some (.int .i64 x446000_1) ∧ w'.cell? ⟨gb445,1,none⟩ = some (.int .i64 x446001_1) ∧ w'.cell? ⟨gb445,2,none⟩ = some (.int .i64 x446002_1) ∧ w'.cell? ⟨gb445,3,none⟩ = some (.int .i64 x446003_1)) (ds:=[6]) #[false,false,false,false,false,false,false] (by kernel_rfl) rfl rfl ⟨(blk_cell BK445.out 0).trans rfl,(blk_cell BK445.out 1).trans rfl,(blk_cell BK445.out 2).trans rfl,(blk_cell BK445.out 3).trans rfl⟩ (fun hHeld=>?_)
    generalize wr.drew = w15 at BK443 BK445 HB hHeld ⊢
    refine pure_ (i:=0) (N:=some 25) (v:=?_) (a':=?_) #[true,false,false,false,false,false,false] rfl rfl (by kernel_rfl) (fun _ _ _ h=>h) (Or.inl ⟨by rfl,?_⟩) ?_ ?_
    rotate_left
    ·intro w'
     go_simp
     with_reducible rfl
    rotate_left
    ·simp only [Act.put,List.setIfInBounds_toArray,List.set_cons_zero,List.set_cons_succ,i64_w,i32_w]
     rfl
    refine pure_ (i:=2) (N:=some 27) (v:=?_) (a':=?_) #[true,false,true,false,false,false,false] rfl rfl (by kernel_rfl) (fun _ _ _ h=>h) (Or.inl ⟨by rfl,?_⟩) ?_ ?_
    rotate_left
    ·intro w'
     go_simp
     with_reducible rfl
    rotate_left
    ·simp only [Act.put,List.setIfInBounds_toArray,List.set_cons_zero,List.set_cons_succ,i64_w,i32_w]
     rfl
    refine take_ (i:=1) (N:=some 26) (v:=?_) (a':=?_) #[true,true,true,false,false,false,false] rfl rfl (by kernel_rfl) (fun _ _ _ h=>h) (Or.inl ⟨by rfl,?_⟩) hHeld ?_ ?_
    rotate_left
    ·rintro w' ⟨s0,s1,s2,s3⟩
     go_simp
     with_reducible rfl
    rotate_left
    ·simp only [Act.put,List.setIfInBounds_toArray,List.set_cons_zero,List.set_cons_succ,i64_w,i32_w]
     rfl
    refine one_ (i:=3) (N:=some 28) #[true,true,true,true,false,false,false] rfl rfl (by kernel_rfl) (by decide) (fun K hK=>?_)
    refine goes_ Try.func88 (by kernel_rfl) rfl #[.int .i64 x6_1] (by rfl) rfl rfl (by (try simp only [List.map_toArray,List.map_cons,List.map_nil]);first | done | rfl | (simp only [List.length_drop,List.length_take];rfl)) ?_
    with_reducible refine (numnahref01_digits.calls k1 x6_1 t447 _ A13.out).mono ?_
    rintro e w' ⟨rfl,⟨nd,rfl⟩⟩
    refine ⟨_,rfl,?_⟩
    refine hK.out _ _ ⟨(blk_cell BK445.out 0).trans rfl,(blk_cell BK445.out 1).trans rfl,(blk_cell BK445.out 2).trans rfl,(blk_cell BK445.out 3).trans rfl⟩ (fun hHeld=>?_)
    clear hK K
    refine norm_ (a':=?_) ?_ ?_
    rotate_left
    ·show Act.put _ (some 28) _ = _
     simp only [Act.put,List.setIfInBounds_toArray,List.set_cons_zero,List.set_cons_succ,i64_w,i32_w]
     rfl
    refine pure_ (i:=4) (N:=some 29) (v:=?_) (a':=?_) #[true,true,true,true,true,false,false] rfl rfl (by kernel_rfl) (fun _ _ _ h=>h) (Or.inl ⟨by rfl,?_⟩) ?_ ?_
    rotate_left
    ·intro w'
     go_simp
     with_reducible rfl
    rotate_left
    ·simp only [Act.put,List.setIfInBounds_toArray,List.set_cons_zero,List.set_cons_succ,i64_w,i32_w]
     rfl
    refine pure_ (i:=5) (N:=some 30) (v:=?_) (a':=?_) #[true,true,true,true,true,true,false] rfl rfl (by kernel_rfl) (fun _ _ _ h=>h) (Or.inl ⟨by rfl,?_⟩) ?_ ?_
    rotate_left
    ·intro w'
     go_simp
     with_reducible rfl
    rotate_left
    ·simp only [Act.put,List.setIfInBounds_toArray,List.set_cons_zero,List.set_cons_succ,i64_w,i32_w]
     rfl
    refine last_ (i:=6) (N:=none) #[true,true,true,true,true,true,true] rfl rfl (by kernel_rfl) (by decide) (fun K hK=>?_)
    have hs16:w15.cell? ⟨gb445,0,none⟩ = some (.int .i64 x446000_1):=(blk_cell BK445.out 0).trans rfl
    have hfs16:=blk_frozen BK445.out 0
    have hns16_0:=NB443_445.out
    have hms16_0:=NB445_443.out
    refine skip_ (w1:=?_) (by rfl) rfl ?_ ?_
    rotate_left
    ·go_simp
     rfl
    refine hK.out _ _ ?_
    clear hK K
    refine done_ (by kernel_rfl) ?_
    try go_wp2
    go_meet
    case rel=>exact ⟨_,(ji14),H',⟨by have:=HK1.out;first | omega | exact Nat.le_refl _⟩,⟨by (with_reducible repeat (first | refine blk_drewN ?_ _ | refine blk_drew ?_ | refine blk_alloc ?_ _));refine blk_far ?_ NB443_445.out _;(with_reducible repeat (first | refine blk_drewN ?_ _ | refine blk_drew ?_ | refine blk_alloc ?_ _));exact BK443.out⟩,⟨by (with_reducible repeat (first | refine blk_drewN ?_ _ | refine blk_drew ?_ | refine blk_alloc ?_ _));refine blk_put (cs:=#[.int .i64 x446000_1,.int .i64 x446001_1,.int .i64 x446002_1,.int .i64 x446003_1]) ?_ 0 _ rfl;(with_reducible repeat (first | refine blk_drewN ?_ _ | refine blk_drew ?_ | refine blk_alloc ?_ _));exact BK445.out⟩,⟨by repeat (first | (with_reducible first | exact HB.out | apply below_alloc | apply pw_below_drewN | apply below_drew1 | refine below_set ?_ GE443.out | refine below_set ?_ GE445.out) | exact HB.out)⟩⟩
   case rest =>
    clear HC11
    try clear c1
    try clear p1
    try clear q1
    try clear hx1
    try clear c2
    try clear p2
    try clear c5
    try clear c7
    try clear c7b0
    try clear c8
    try clear c8b0
    try clear c9
    try clear c9b0
    try clear p10
    try clear q10
    try clear hx10
    try clear c12
    try clear c12b0
    try clear c12b1
    try clear p10
    try clear p2
    try clear q10
    obtain ⟨kq,x446000_10,HA,HJ10,BK443,BK445,HB⟩:=hcut
    cases kq with
    | zero=>exact absurd HA.out (by simp [numnahref01_Measures.j1])
    | succ kj10 =>
     have H:=HA.out
     clear HA
     simp only [numnahref01_Measures.j1] at H
     by_cases c17:0 ≤ x6_1
     case neg =>
      rw [if_neg c17] at H
      exact absurd H (by simp)
     rw [if_pos c17] at H
     have c17b0:decide (0 ≤ x6_1) = true:=decide_eq_true c17
     clear c17
     by_cases c18:x6_1 < (a0.size:Int)
     case neg =>
      rw [if_neg c18] at H
      exact absurd H (by simp)
     rw [if_pos c18] at H
     have c18b0:decide (x6_1 < (a0.size:Int)) = true:=decide_eq_true c18
     clear c18
     have HC20:=Aside0.mk H
     clear H
     have p19:0 ≤ (x6_1:Int):=of_decide_eq_true (by first | (with_reducible assumption) | assumption)
     have q19:x6_1 < (a0.size:Int):=of_decide_eq_true (by first | (with_reducible assumption) | assumption)
     have hx19:=bt_at a0 x6_1
     replace p19:=eq_true p19
     replace q19:=eq_true q19
     go_upto_if 34 with (fail)
     go_cut [] (fun wc=>∃ (kq:Nat) (x446003_19:Int),Aside0 (numnahref01_Measures.j2 kq a0 t444 t446 x6_1 x446000_10 x446001_1 x446002_1 x446003_19 = some (r1,r2,r3,r4)) ∧ Aside0 (kq ≤ kj10) ∧ Aside0 (wc.heap[gb443]? = some (.cells #[.int .i64 0,.int .i64 0,.int .i64 0,.int .i64 0] 65 (0,0))) ∧ Aside0 (wc.heap[gb445]? = some (.cells #[.int .i64 x446000_10,.int .i64 x446001_1,.int .i64 x446002_1,.int .i64 x446003_19] 65 (0,0))) ∧ Aside0 (Below w.heap.size w wc))
     case first =>
      have H:=HC20.out
      clear HC20
      by_cases c21:(bt a0 x6_1) = 49
      case neg =>
       rw [if_neg c21] at H
       have c21b0:((bt a0 x6_1) == 49) = false:=beq_eq_false_iff_ne.mpr c21
       have c21b1:((bt a0 x6_1) != 49) = true:=bne_iff_ne.mpr c21
       (first | rw [c21b0] | (simp only [i64_w,i32_w];rw [c21b0]) | skip)
       have H':=Aside0.mk H
       clear H
       go_wp2
       go_meet
       case rel=>exact ⟨_,(x446003_1),H',⟨by have:=HK1.out;have:=HJ10.out;first | omega | exact Nat.le_refl _⟩,⟨by (with_reducible repeat (first | refine blk_drewN ?_ _ | refine blk_drew ?_ | refine blk_alloc ?_ _));exact BK443.out⟩,⟨by (with_reducible repeat (first | refine blk_drewN ?_ _ | refine blk_drew ?_ | refine blk_alloc ?_ _));exact BK445.out⟩,⟨by repeat (first | (with_reducible first | exact HB.out | apply below_alloc | apply pw_below_drewN | apply below_drew1 | refine below_set ?_ GE443.out | refine below_set ?_ GE445.out) | exact HB.out)⟩⟩
      rw [if_pos c21] at H
      have c21b0:((bt a0 x6_1) == 49) = true:=beq_iff_eq.mpr c21
      have c21b1:((bt a0 x6_1) != 49) = false:=bne_eq_false_iff_eq.mpr c21
      clear c21
      (first | rw [c21b0] | (simp only [i64_w,i32_w];rw [c21b0]) | skip)
      have H':=Aside0.mk H
      clear H
      have hnb22:=NB445_443.out
      have hnc22:=NB443_445.out
      have hcz23_0:wc.cell? ⟨gb445,0,none⟩ = some (.int .i64 x446000_10):=(blk_cell BK445.out 0).trans rfl
      have hcz23_1:wc.cell? ⟨gb445,1,none⟩ = some (.int .i64 x446001_1):=(blk_cell BK445.out 1).trans rfl
      have hcz23_2:wc.cell? ⟨gb445,2,none⟩ = some (.int .i64 x446002_1):=(blk_cell BK445.out 2).trans rfl
      have hcz23_3:wc.cell? ⟨gb445,3,none⟩ = some (.int .i64 x446003_1):=(blk_cell BK445.out 3).trans rfl
      have hfz23_0:=blk_frozen BK445.out 0
      have hfz23_1:=blk_frozen BK445.out 1
      have hfz23_2:=blk_frozen BK445.out 2
      have hfz23_3:=blk_frozen BK445.out 3
      go_wp2
      go_meet
      case rel=>exact ⟨_,(wrap64 (x446003_1 + 1)),H',⟨by have:=HK1.out;have:=HJ10.out;first | omega | exact Nat.le_refl _⟩,⟨by (with_reducible repeat (first | refine blk_drewN ?_ _ | refine blk_drew ?_ | refine blk_alloc ?_ _));refine blk_far ?_ NB443_445.out _;(with_reducible repeat (first | refine blk_drewN ?_ _ | refine blk_drew ?_ | refine blk_alloc ?_ _));exact BK443.out⟩,⟨by (with_reducible repeat (first | refine blk_drewN ?_ _ | refine blk_drew ?_ | refine blk_alloc ?_ _));refine blk_put (cs:=#[.int .i64 x446000_10,.int .i64 x446001_1,.int .i64 x446002_1,.int .i64 x446003_1]) ?_ 3 _ rfl;(with_reducible repeat (first | refine blk_drewN ?_ _ | refine blk_drew ?_ | refine blk_alloc ?_ _));exact BK445.out⟩,⟨by repeat (first | (with_reducible first | exact HB.out | apply below_alloc | apply pw_below_drewN | apply below_drew1 | refine below_set ?_ GE443.out | refine below_set ?_ GE445.out) | exact HB.out)⟩⟩
     case rest =>
      clear HC20
      try clear c1
      try clear p1
      try clear q1
      try clear hx1
      try clear c2
      try clear p2
      try clear c5
      try clear p6
      try clear c7
      try clear c7b0
      try clear c8
      try clear c8b0
      try clear c9
      try clear c9b0
      try clear p10
      try clear q10
      try clear hx10
      try clear c12
      try clear c12b0
      try clear c12b1
      try clear c17
      try clear c17b0
      try clear c18
      try clear c18b0
      try clear p19
      try clear q19
      try clear hx19
      try clear c21
      try clear c21b0
      try clear c21b1
      try clear c22
      try clear hcz23_0
      try clear hcz23_1
      try clear hcz23_2
      try clear hcz23_3
      try clear hfz23_0
      try clear hfz23_1
      try clear hfz23_2
      try clear hfz23_3
      try clear p1
      try clear p10
      try clear p19
      try clear p2
      try clear q1
      try clear q10
      try clear q19
      obtain ⟨kq,x446003_19,HA,HJ19,BK443,BK445,HB⟩:=hcut
      cases kq with
      | zero=>exact absurd HA.out (by simp [numnahref01_Measures.j2])
      | succ kj19 =>
       have H:=HA.out
       clear HA
       simp only [numnahref01_Measures.j2] at H
       have H':=Aside0.mk H
       clear H
       go_wp2
       go_loopg [7,9] kj19 (fun kq v7 v9 w'=>∃ (x7_4:Int) (x9_4:Int),v7 = .int .i64 x7_4 ∧ v9 = .int .i64 x9_4 ∧ Aside0 (numnahref01_Measures.l1 kq a0 t444 t446 x6_1 x7_4 t444 x9_4 x446000_10 x446001_1 x446002_1 x446003_19 = some (r1,r2,r3,r4)) ∧ Aside0 (kq ≤ kj19) ∧ Aside0 (w'.heap[gb443]? = some (.cells #[.int .i64 0,.int .i64 0,.int .i64 0,.int .i64 0] 65 (0,0))) ∧ Aside0 (w'.heap[gb445]? = some (.cells #[.int .i64 x446000_10,.int .i64 x446001_1,.int .i64 x446002_1,.int .i64 x446003_19] 65 (0,0))) ∧ Aside0 (Below w.heap.size w w'))
       case atStart=>exact ⟨(0),(0),(by first | rfl | (simp;done) | (simp [*];done)),(by first | rfl | (simp;done) | (simp [*];done)),H',⟨Nat.le_refl _⟩,⟨by (with_reducible repeat (first | refine blk_drewN ?_ _ | refine blk_drew ?_ | refine blk_alloc ?_ _));exact BK443.out⟩,⟨by (with_reducible repeat (first | refine blk_drewN ?_ _ | refine blk_drew ?_ | refine blk_alloc ?_ _));exact BK445.out⟩,⟨by repeat (first | (with_reducible first | exact HB.out | apply below_alloc | apply pw_below_drewN | apply below_drew1 | refine below_set ?_ GE443.out | refine below_set ?_ GE445.out) | exact HB.out)⟩⟩
       case round =>
        clear H'
        try clear c1
        try clear p1
        try clear q1
        try clear hx1
        try clear c2
        try clear p2
        try clear c5
        try clear p6
        try clear c7
        try clear c7b0
        try clear c8
        try clear c8b0
        try clear c9
        try clear c9b0
        try clear p10
        try clear q10
        try clear hx10
        try clear c12
        try clear c12b0
        try clear c12b1
        try clear c17
        try clear c17b0
        try clear c18
        try clear c18b0
        try clear p19
        try clear q19
        try clear hx19
        try clear c21
        try clear c21b0
        try clear c21b1
        try clear c22
        try clear hcz23_0
        try clear hcz23_1
        try clear hcz23_2
        try clear hcz23_3
        try clear hfz23_0
        try clear hfz23_1
        try clear hfz23_2
        try clear hfz23_3
        try clear p1
        try clear p10
        try clear p19
        try clear p2
        try clear p6
        try clear q1
        try clear q10
        try clear q19
        obtain ⟨x7_4,x9_4,rfl,rfl,HA,HK4,BK443,BK445,HB⟩:=hrel
        cases gk with
        | zero=>exact absurd HA.out (by simp [numnahref01_Measures.l1])
        | succ k4 =>
         have H:=HA.out
         clear HA
         simp only [numnahref01_Measures.l1] at H
         by_cases c24:x9_4 < t444
         case neg =>
          rw [if_neg c24] at H
          have c24b0:decide (x9_4 < t444) = false:=decide_eq_false c24
          clear c24
          have H':=Aside0.mk H
          clear H
          go_wp2
          go_loopg [8,10] k4 (fun kq v8 v10 w'=>∃ (x8_5:Int) (x10_5:Int),v8 = .int .i64 x8_5 ∧ v10 = .int .i64 x10_5 ∧ Aside0 (numnahref01_Measures.l2 kq a0 t444 t446 x6_1 x7_4 x8_5 x10_5 x446000_10 x446001_1 x446002_1 x446003_19 = some (r1,r2,r3,r4)) ∧ Aside0 (kq ≤ k4) ∧ Aside0 (w'.heap[gb443]? = some (.cells #[.int .i64 0,.int .i64 0,.int .i64 0,.int .i64 0] 65 (0,0))) ∧ Aside0 (w'.heap[gb445]? = some (.cells #[.int .i64 x446000_10,.int .i64 x446001_1,.int .i64 x446002_1,.int .i64 x446003_19] 65 (0,0))) ∧ Aside0 (Below w.heap.size w w'))
          case atStart=>exact ⟨(t444),(0),(by first | rfl | (simp;done) | (simp [*];done)),(by first | rfl | (simp;done) | (simp [*];done)),H',⟨Nat.le_refl _⟩,⟨by (with_reducible repeat (first | refine blk_drewN ?_ _ | refine blk_drew ?_ | refine blk_alloc ?_ _));exact BK443.out⟩,⟨by (with_reducible repeat (first | refine blk_drewN ?_ _ | refine blk_drew ?_ | refine blk_alloc ?_ _));exact BK445.out⟩,⟨by repeat (first | (with_reducible first | exact HB.out | apply below_alloc | apply pw_below_drewN | apply below_drew1 | refine below_set ?_ GE443.out | refine below_set ?_ GE445.out) | exact HB.out)⟩⟩
          case round =>
           clear H'
           try clear c1
           try clear p1
           try clear q1
           try clear hx1
           try clear c2
           try clear p2
           try clear q2
           try clear hx2
           try clear c3
           try clear p3
           try clear q3
           try clear hx3
           try clear c5
           try clear p6
           try clear c7
           try clear c7b0
           try clear c8
           try clear c8b0
           try clear c9
           try clear c9b0
           try clear p10
           try clear q10
           try clear hx10
           try clear c12
           try clear c12b0
           try clear c12b1
           try clear c17
           try clear c17b0
           try clear c18
           try clear c18b0
           try clear p19
           try clear q19
           try clear hx19
           try clear c21
           try clear c21b0
           try clear c21b1
           try clear c22
           try clear c24
           try clear c24b0
           try clear c25
           try clear c25b0
           try clear c26
           try clear c26b0
           try clear p27
           try clear q27
           try clear hx27
           try clear c28
           try clear c28b0
           try clear c28b1
           try clear c30
           try clear c30b0
           try clear c31
           try clear c31b0
           try clear p32
           try clear q32
           try clear hx32
           try clear c33
           try clear c33b0
           try clear c33b1
           try clear hcz23_0
           try clear hcz23_1
           try clear hcz23_2
           try clear hcz23_3
           try clear hfz23_0
           try clear hfz23_1
           try clear hfz23_2
           try clear hfz23_3
           try clear p1
           try clear p10
           try clear p19
           try clear p2
           try clear p27
           try clear p32
           try clear p6
           try clear q1
           try clear q10
           try clear q19
           try clear q27
           try clear q32
           obtain ⟨x8_5,x10_5,rfl,rfl,HA,HK5,BK443,BK445,HB⟩:=hrel
           cases gk with
           | zero=>exact absurd HA.out (by simp [numnahref01_Measures.l2])
           | succ k5 =>
            have H:=HA.out
            clear HA
            simp only [numnahref01_Measures.l2] at H
            by_cases c36:0 ≤ t444
            case neg =>
             rw [if_neg c36] at H
             exact absurd H (by simp)
            rw [if_pos c36] at H
            have c36b0:=eq_true c36
            have c36b1:decide (0 ≤ t444) = true:=decide_eq_true c36
            clear c36
            obtain ⟨ji37,hji37⟩:∃ j_:Int,(shl .i64 1 t444) = j_:=⟨_,rfl⟩
            replace H:(if x10_5 < (ji37) then ((numnahref01_digits.f k5 x10_5).bind fun t448=>(if t448 < x8_5 then ((numnahref01_decides.f k5 a0 x6_1 x10_5).bind fun t449=>(if t449 = true then ((numnahref01_digits.f k5 x10_5).bind fun t450=>(numnahref01_Measures.l2 k5 a0 t444 t446 x6_1 x7_4 t450 (wrap64 (x10_5 + 1)) x446000_10 x446001_1 x446002_1 x446003_19)) else (numnahref01_Measures.l2 k5 a0 t444 t446 x6_1 x7_4 x8_5 (wrap64 (x10_5 + 1)) x446000_10 x446001_1 x446002_1 x446003_19))) else (numnahref01_Measures.l2 k5 a0 t444 t446 x6_1 x7_4 x8_5 (wrap64 (x10_5 + 1)) x446000_10 x446001_1 x446002_1 x446003_19))) else (numnahref01_Measures.l0 k5 a0 t444 t446 (wrap64 (x6_1 + 1)) x446000_10 (mx x446001_1 x7_4) (mx x446002_1 x8_5) x446003_19)) = some (r1,r2,r3,r4):=by first | (rw [hji37] at H;exact H) | (simp only [hji37] at H ⊢;exact H)
            have hji37_:(IntKind.i64.wrap (1 * 2 ^ min t444.toNat 64)) = ji37:=hji37
            have hji37z:t444 ≤ 64 → (IntKind.i64.wrap (1 * 2 ^ t444.toNat)) = ji37:=shl_small hji37
            have hji37u:(IntKind.i64.wrap (2 ^ min t444.toNat 64)) = ji37:=by have h_:=hji37_;rw [Int.one_mul] at h_;exact h_
            have hji37v:t444 ≤ 64 → (IntKind.i64.wrap (2 ^ t444.toNat)) = ji37:=fun hle_=>by have h_:=hji37z hle_;rw [Int.one_mul] at h_;exact h_
            have hji37y:(wrap64 (1 * 2 ^ min t444.toNat 64)) = ji37:=(i64_w _).symm.trans hji37_
            have hji37x:t444 ≤ 64 → (wrap64 (1 * 2 ^ t444.toNat)) = ji37:=fun h_=>(i64_w _).symm.trans (hji37z h_)
            by_cases c38:x10_5 < (ji37)
            case neg =>
             rw [if_neg c38] at H
             have c38b0:decide (x10_5 < (ji37)) = false:=decide_eq_false c38
             clear c38
             obtain ⟨ji44,hji44⟩:∃ j_:Int,(mx x446001_1 x7_4) = j_:=⟨_,rfl⟩
             replace H:(numnahref01_Measures.l0 k5 a0 t444 t446 (wrap64 (x6_1 + 1)) x446000_10 ji44 (mx x446002_1 x8_5) x446003_19) = some (r1,r2,r3,r4):=by first | (rw [hji44] at H;exact H) | (simp only [hji44] at H ⊢;exact H)
             have hji44_:(if x446001_1 < x7_4 then x7_4 else x446001_1) = ji44:=hji44
             obtain ⟨ji45,hji45⟩:∃ j_:Int,(mx x446002_1 x8_5) = j_:=⟨_,rfl⟩
             replace H:(numnahref01_Measures.l0 k5 a0 t444 t446 (wrap64 (x6_1 + 1)) x446000_10 ji44 ji45 x446003_19) = some (r1,r2,r3,r4):=by first | (rw [hji45] at H;exact H) | (simp only [hji45] at H ⊢;exact H)
             have hji45_:(if x446002_1 < x8_5 then x8_5 else x446002_1) = ji45:=hji45
             have H':=Aside0.mk H
             clear H
             have hnb46:=NB445_443.out
             have hnc46:=NB443_445.out
             have hcz47_0:wr.cell? ⟨gb445,0,none⟩ = some (.int .i64 x446000_10):=(blk_cell BK445.out 0).trans rfl
             have hcz47_1:wr.cell? ⟨gb445,1,none⟩ = some (.int .i64 x446001_1):=(blk_cell BK445.out 1).trans rfl
             have hcz47_2:wr.cell? ⟨gb445,2,none⟩ = some (.int .i64 x446002_1):=(blk_cell BK445.out 2).trans rfl
             have hcz47_3:wr.cell? ⟨gb445,3,none⟩ = some (.int .i64 x446003_19):=(blk_cell BK445.out 3).trans rfl
             have hfz47_0:=blk_frozen BK445.out 0
             have hfz47_1:=blk_frozen BK445.out 1
             have hfz47_2:=blk_frozen BK445.out 2
             have hfz47_3:=blk_frozen BK445.out 3
             go_wp2
             go_roundg k5
             case measure=>have:=HK1.out;have:=HJ10.out;have:=HJ19.out;have:=HK4.out;have:=HK5.out;omega
             case rel=>exact ⟨(wrap64 (x6_1 + 1)),(x446000_10),(ji44),(ji45),(x446003_19),(by first | rfl | (simp;done) | (simp [*];done)),H',⟨by have:=HK1.out;have:=HJ10.out;have:=HJ19.out;have:=HK4.out;have:=HK5.out;omega⟩,⟨by (with_reducible repeat (first | refine blk_drewN ?_ _ | refine blk_drew ?_ | refine blk_alloc ?_ _));refine blk_far ?_ NB443_445.out _;(with_reducible repeat (first | refine blk_drewN ?_ _ | refine blk_drew ?_ | refine blk_alloc ?_ _));refine blk_far ?_ NB443_445.out _;(with_reducible repeat (first | refine blk_drewN ?_ _ | refine blk_drew ?_ | refine blk_alloc ?_ _));exact BK443.out⟩,⟨by (with_reducible repeat (first | refine blk_drewN ?_ _ | refine blk_drew ?_ | refine blk_alloc ?_ _));refine blk_put (cs:=#[.int .i64 x446000_10,.int .i64 ji44,.int .i64 x446002_1,.int .i64 x446003_19]) ?_ 2 _ rfl;(with_reducible repeat (first | refine blk_drewN ?_ _ | refine blk_drew ?_ | refine blk_alloc ?_ _));refine blk_put (cs:=#[.int .i64 x446000_10,.int .i64 x446001_1,.int .i64 x446002_1,.int .i64 x446003_19]) ?_ 1 _ rfl;(with_reducible repeat (first | refine blk_drewN ?_ _ | refine blk_drew ?_ | refine blk_alloc ?_ _));exact BK445.out⟩,⟨by repeat (first | (with_reducible first | exact HB.out | apply below_alloc | apply pw_below_drewN | apply below_drew1 | refine below_set ?_ GE443.out | refine below_set ?_ GE445.out) | exact HB.out)⟩⟩
            rw [if_pos c38] at H
            have c38b0:decide (x10_5 < (ji37)) = true:=decide_eq_true c38
            clear c38
            replace H:=Option.bind_eq_some_iff.mp H
            obtain ⟨t448,A390,H⟩:=H
            replace H:(if t448 < x8_5 then ((numnahref01_decides.f k5 a0 x6_1 x10_5).bind fun t449=>(if t449 = true then ((numnahref01_digits.f k5 x10_5).bind fun t450=>(numnahref01_Measures.l2 k5 a0 t444 t446 x6_1 x7_4 t450 (wrap64 (x10_5 + 1)) x446000_10 x446001_1 x446002_1 x446003_19)) else (numnahref01_Measures.l2 k5 a0 t444 t446 x6_1 x7_4 x8_5 (wrap64 (x10_5 + 1)) x446000_10 x446001_1 x446002_1 x446003_19))) else (numnahref01_Measures.l2 k5 a0 t444 t446 x6_1 x7_4 x8_5 (wrap64 (x10_5 + 1)) x446000_10 x446001_1 x446002_1 x446003_19)) = some (r1,r2,r3,r4):=H
            have A39:=Aside0.mk A390
            clear A390
            by_cases c40:t448 < x8_5
            case neg =>
             rw [if_neg c40] at H
             have c40b0:decide (t448 < x8_5) = false:=decide_eq_false c40
             clear c40
             have H':=Aside0.mk H
             clear H
             go_wp2_with (first | ((with_reducible refine gate_callee (f:=88) rfl ?_);refine goesL_ (some 64) rfl rfl Try.func88 (by kernel_rfl) rfl #[.int .i64 x10_5] rfl (by (try simp only [List.map_toArray,List.map_cons,List.map_nil]);first | done | rfl | (simp only [List.length_drop,List.length_take];rfl)) ?_;(with_reducible refine (numnahref01_digits.calls k5 x10_5 t448 _ A39.out).mono ?_);rintro e w' ⟨rfl,⟨nd,rfl⟩⟩;refine ⟨_,rfl,?_⟩))
             go_roundg k5
             case measure=>have:=HK1.out;have:=HJ10.out;have:=HJ19.out;have:=HK4.out;have:=HK5.out;omega
             case rel=>exact ⟨(x8_5),(wrap64 (x10_5 + 1)),(by first | rfl | (simp;done) | (simp [*];done)),(by first | rfl | (simp;done) | (simp [*];done)),H',⟨by have:=HK1.out;have:=HJ10.out;have:=HJ19.out;have:=HK4.out;have:=HK5.out;omega⟩,⟨by (with_reducible repeat (first | refine blk_drewN ?_ _ | refine blk_drew ?_ | refine blk_alloc ?_ _));exact BK443.out⟩,⟨by (with_reducible repeat (first | refine blk_drewN ?_ _ | refine blk_drew ?_ | refine blk_alloc ?_ _));exact BK445.out⟩,⟨by repeat (first | (with_reducible first | exact HB.out | apply below_alloc | apply pw_below_drewN | apply below_drew1 | refine below_set ?_ GE443.out | refine below_set ?_ GE445.out) | exact HB.out)⟩⟩
            rw [if_pos c40] at H
            have c40b0:decide (t448 < x8_5) = true:=decide_eq_true c40
            clear c40
            replace H:=Option.bind_eq_some_iff.mp H
            obtain ⟨t449,A410,H⟩:=H
            replace H:(if t449 = true then ((numnahref01_digits.f k5 x10_5).bind fun t450=>(numnahref01_Measures.l2 k5 a0 t444 t446 x6_1 x7_4 t450 (wrap64 (x10_5 + 1)) x446000_10 x446001_1 x446002_1 x446003_19)) else (numnahref01_Measures.l2 k5 a0 t444 t446 x6_1 x7_4 x8_5 (wrap64 (x10_5 + 1)) x446000_10 x446001_1 x446002_1 x446003_19)) = some (r1,r2,r3,r4):=H
            have A41:=Aside0.mk A410
            clear A410
            by_cases c42:t449 = true
            case neg =>
             replace c42:=Bool.eq_false_iff.mpr c42
             subst c42
             have H1:(numnahref01_Measures.l2 k5 a0 t444 t446 x6_1 x7_4 x8_5 (wrap64 (x10_5 + 1)) x446000_10 x446001_1 x446002_1 x446003_19) = some (r1,r2,r3,r4):=by rw [if_neg (show ¬ (false = true) by decide)] at H;exact H
             clear H
             have H:=H1
             clear H1
             have H':=Aside0.mk H
             clear H
             go_wp2_with (first | ((with_reducible refine gate_callee (f:=88) rfl ?_);refine goesL_ (some 64) rfl rfl Try.func88 (by kernel_rfl) rfl #[.int .i64 x10_5] rfl (by (try simp only [List.map_toArray,List.map_cons,List.map_nil]);first | done | rfl | (simp only [List.length_drop,List.length_take];rfl)) ?_;(with_reducible refine (numnahref01_digits.calls k5 x10_5 t448 _ A39.out).mono ?_);rintro e w' ⟨rfl,⟨nd,rfl⟩⟩;refine ⟨_,rfl,?_⟩) | (go_at_call 89;(with_reducible refine (numnahref01_decides.calls k5 a0 x6_1 x10_5 false _ A41.out).mono ?_);rintro e w' ⟨rfl,⟨nd,rfl⟩⟩))
             go_roundg k5
             case measure=>have:=HK1.out;have:=HJ10.out;have:=HJ19.out;have:=HK4.out;have:=HK5.out;omega
             case rel=>exact ⟨(x8_5),(wrap64 (x10_5 + 1)),(by first | rfl | (simp;done) | (simp [*];done)),(by first | rfl | (simp;done) | (simp [*];done)),H',⟨by have:=HK1.out;have:=HJ10.out;have:=HJ19.out;have:=HK4.out;have:=HK5.out;omega⟩,⟨by (with_reducible repeat (first | refine blk_drewN ?_ _ | refine blk_drew ?_ | refine blk_alloc ?_ _));exact BK443.out⟩,⟨by (with_reducible repeat (first | refine blk_drewN ?_ _ | refine blk_drew ?_ | refine blk_alloc ?_ _));exact BK445.out⟩,⟨by repeat (first | (with_reducible first | exact HB.out | apply below_alloc | apply pw_below_drewN | apply below_drew1 | refine below_set ?_ GE443.out | refine below_set ?_ GE445.out) | exact HB.out)⟩⟩
            subst c42
            have H1:((numnahref01_digits.f k5 x10_5).bind fun t450=>(numnahref01_Measures.l2 k5 a0 t444 t446 x6_1 x7_4 t450 (wrap64 (x10_5 + 1)) x446000_10 x446001_1 x446002_1 x446003_19)) = some (r1,r2,r3,r4):=by rw [if_pos rfl] at H;exact H
            clear H
            have H:=H1
            clear H1
            replace H:=Option.bind_eq_some_iff.mp H
            obtain ⟨t450,A430,H⟩:=H
            replace H:(numnahref01_Measures.l2 k5 a0 t444 t446 x6_1 x7_4 t450 (wrap64 (x10_5 + 1)) x446000_10 x446001_1 x446002_1 x446003_19) = some (r1,r2,r3,r4):=H
            have A43:=Aside0.mk A430
            clear A430
            have H':=Aside0.mk H
            clear H
            go_wp2_with (first | ((with_reducible refine gate_callee (f:=88) rfl ?_);refine goesL_ (some 64) rfl rfl Try.func88 (by kernel_rfl) rfl #[.int .i64 x10_5] rfl (by (try simp only [List.map_toArray,List.map_cons,List.map_nil]);first | done | rfl | (simp only [List.length_drop,List.length_take];rfl)) ?_;(with_reducible refine (numnahref01_digits.calls k5 x10_5 t448 _ A39.out).mono ?_);rintro e w' ⟨rfl,⟨nd,rfl⟩⟩;refine ⟨_,rfl,?_⟩) | (go_at_call 89;(with_reducible refine (numnahref01_decides.calls k5 a0 x6_1 x10_5 true _ A41.out).mono ?_);rintro e w' ⟨rfl,⟨nd,rfl⟩⟩) | ((with_reducible refine gate_callee (f:=88) rfl ?_);refine goesL_ (some 74) rfl rfl Try.func88 (by kernel_rfl) rfl #[.int .i64 x10_5] rfl (by (try simp only [List.map_toArray,List.map_cons,List.map_nil]);first | done | rfl | (simp only [List.length_drop,List.length_take];rfl)) ?_;(with_reducible refine (numnahref01_digits.calls k5 x10_5 t450 _ A43.out).mono ?_);rintro e w' ⟨rfl,⟨nd,rfl⟩⟩;refine ⟨_,rfl,?_⟩))
            go_roundg k5
            case measure=>have:=HK1.out;have:=HJ10.out;have:=HJ19.out;have:=HK4.out;have:=HK5.out;omega
            case rel=>exact ⟨(t450),(wrap64 (x10_5 + 1)),(by first | rfl | (simp;done) | (simp [*];done)),(by first | rfl | (simp;done) | (simp [*];done)),H',⟨by have:=HK1.out;have:=HJ10.out;have:=HJ19.out;have:=HK4.out;have:=HK5.out;omega⟩,⟨by (with_reducible repeat (first | refine blk_drewN ?_ _ | refine blk_drew ?_ | refine blk_alloc ?_ _));exact BK443.out⟩,⟨by (with_reducible repeat (first | refine blk_drewN ?_ _ | refine blk_drew ?_ | refine blk_alloc ?_ _));exact BK445.out⟩,⟨by repeat (first | (with_reducible first | exact HB.out | apply below_alloc | apply pw_below_drewN | apply below_drew1 | refine below_set ?_ GE443.out | refine below_set ?_ GE445.out) | exact HB.out)⟩⟩
         rw [if_pos c24] at H
         have c24b0:decide (x9_4 < t444) = true:=decide_eq_true c24
         clear c24
         by_cases c25:0 ≤ x6_1
         case neg =>
          rw [if_neg c25] at H
          exact absurd H (by simp)
         rw [if_pos c25] at H
         have c25b0:decide (0 ≤ x6_1) = true:=decide_eq_true c25
         clear c25
         by_cases c26:x6_1 < (a0.size:Int)
         case neg =>
          rw [if_neg c26] at H
          exact absurd H (by simp)
         rw [if_pos c26] at H
         have c26b0:decide (x6_1 < (a0.size:Int)) = true:=decide_eq_true c26
         clear c26
         by_cases c28:0 ≤ x9_4
         case neg =>
          rw [if_neg c28] at H
          exact absurd H (by simp)
         rw [if_pos c28] at H
         have c28b0:=eq_true c28
         have c28b1:decide (0 ≤ x9_4) = true:=decide_eq_true c28
         clear c28
         obtain ⟨ji29,hji29⟩:∃ j_:Int,(shl .i64 1 x9_4) = j_:=⟨_,rfl⟩
         replace H:(if 0 ≤ (Go.bits .xor .i64 x6_1 (ji29)) then (if (Go.bits .xor .i64 x6_1 (ji29)) < (a0.size:Int) then (if (bt a0 x6_1) = (bt a0 (Go.bits .xor .i64 x6_1 (ji29))) then (numnahref01_Measures.l1 k4 a0 t444 t446 x6_1 x7_4 t444 (wrap64 (x9_4 + 1)) x446000_10 x446001_1 x446002_1 x446003_19) else (numnahref01_Measures.l1 k4 a0 t444 t446 x6_1 (wrap64 (x7_4 + 1)) t444 (wrap64 (x9_4 + 1)) x446000_10 x446001_1 x446002_1 x446003_19)) else (none)) else (none)) = some (r1,r2,r3,r4):=by first | (rw [hji29] at H;exact H) | (simp only [hji29] at H ⊢;exact H)
         have hji29_:(IntKind.i64.wrap (1 * 2 ^ min x9_4.toNat 64)) = ji29:=hji29
         have hji29z:x9_4 ≤ 64 → (IntKind.i64.wrap (1 * 2 ^ x9_4.toNat)) = ji29:=shl_small hji29
         have hji29u:(IntKind.i64.wrap (2 ^ min x9_4.toNat 64)) = ji29:=by have h_:=hji29_;rw [Int.one_mul] at h_;exact h_
         have hji29v:x9_4 ≤ 64 → (IntKind.i64.wrap (2 ^ x9_4.toNat)) = ji29:=fun hle_=>by have h_:=hji29z hle_;rw [Int.one_mul] at h_;exact h_
         have hji29y:(wrap64 (1 * 2 ^ min x9_4.toNat 64)) = ji29:=(i64_w _).symm.trans hji29_
         have hji29x:x9_4 ≤ 64 → (wrap64 (1 * 2 ^ x9_4.toNat)) = ji29:=fun h_=>(i64_w _).symm.trans (hji29z h_)
         by_cases c30:0 ≤ (Go.bits .xor .i64 x6_1 (ji29))
         case neg =>
          rw [if_neg c30] at H
          exact absurd H (by simp)
         rw [if_pos c30] at H
         have c30b0:decide (0 ≤ (Go.bits .xor .i64 x6_1 (ji29))) = true:=decide_eq_true c30
         clear c30
         by_cases c31:(Go.bits .xor .i64 x6_1 (ji29)) < (a0.size:Int)
         case neg =>
          rw [if_neg c31] at H
          exact absurd H (by simp)
         rw [if_pos c31] at H
         have c31b0:decide ((Go.bits .xor .i64 x6_1 (ji29)) < (a0.size:Int)) = true:=decide_eq_true c31
         clear c31
         by_cases c33:(bt a0 x6_1) = (bt a0 (Go.bits .xor .i64 x6_1 (ji29)))
         case neg =>
          rw [if_neg c33] at H
          have c33b0:((bt a0 x6_1) == (bt a0 (Go.bits .xor .i64 x6_1 (ji29)))) = false:=beq_eq_false_iff_ne.mpr c33
          have c33b1:((bt a0 x6_1) != (bt a0 (Go.bits .xor .i64 x6_1 (ji29)))) = true:=bne_iff_ne.mpr c33
          have H':=Aside0.mk H
          clear H
          try go_wp2
          have n0_:=Aside0.mk (blk_drew BK443.out)
          have n1_:=Aside0.mk (blk_drew BK445.out)
          have n2_:=Aside0.mk (below_drew1 HB.out)
          clear BK443
          clear BK445
          clear HB
          have BK443:=n0_
          have BK445:=n1_
          have HB:=n2_
          clear n0_ n1_ n2_
          have p27:0 ≤ (x6_1:Int):=of_decide_eq_true (by first | (with_reducible assumption) | assumption)
          have q27:x6_1 < (a0.size:Int):=of_decide_eq_true (by first | (with_reducible assumption) | assumption)
          have hx27:=bt_at a0 x6_1
          replace p27:=eq_true p27
          replace q27:=eq_true q27
          have p32:0 ≤ ((Go.bits .xor .i64 x6_1 (ji29)):Int):=of_decide_eq_true (by first | (with_reducible assumption) | assumption)
          have q32:(Go.bits .xor .i64 x6_1 (ji29)) < (a0.size:Int):=of_decide_eq_true (by first | (with_reducible assumption) | assumption)
          have hx32:=bt_at a0 (Go.bits .xor .i64 x6_1 (ji29))
          replace p32:=eq_true p32
          replace q32:=eq_true q32
          refine start_ (n:=10) (S:=fun w'=>True) (ds:=[]) #[false,false,false,false,false,false,false,false,false,false] (by kernel_rfl) rfl rfl trivial (fun hHeld=>?_);refine with_tabW numnahref01_Measures.tab15 numnahref01_Measures.bits15 (fun HT_ HW_=>?_)
          generalize wr.drew = w35 at BK443 BK445 HB hHeld ⊢
          refine pure_ (i:=0) (N:=some 45) (v:=?_) (a':=?_) #[true,false,false,false,false,false,false,false,false,false] rfl rfl (any_of HT_.out (by kernel_rfl)) (fun _ _ _ h=>h) (Or.inl ⟨by rfl,?_⟩) ?_ ?_
          rotate_left
          ·intro w'
           go_simp
           with_reducible rfl
          rotate_left
          ·simp only [Act.put,List.setIfInBounds_toArray,List.set_cons_zero,List.set_cons_succ,i64_w,i32_w]
           rfl
          refine pure_ (i:=1) (N:=some 46) (v:=?_) (a':=?_) #[true,true,false,false,false,false,false,false,false,false] rfl rfl (any_of HT_.out (by kernel_rfl)) (fun _ _ _ h=>h) (Or.inl ⟨by rfl,?_⟩) ?_ ?_
          rotate_left
          ·intro w'
           go_simp
           with_reducible rfl
          rotate_left
          ·simp only [Act.put,List.setIfInBounds_toArray,List.set_cons_zero,List.set_cons_succ,i64_w,i32_w]
           rfl
          refine pure_ (i:=3) (N:=some 48) (v:=?_) (a':=?_) #[true,true,false,true,false,false,false,false,false,false] rfl rfl (any_of HT_.out (by kernel_rfl)) (fun _ _ _ h=>h) (Or.inl ⟨by rfl,?_⟩) ?_ ?_
          rotate_left
          ·intro w'
           go_simp
           with_reducible rfl
          rotate_left
          ·simp only [Act.put,List.setIfInBounds_toArray,List.set_cons_zero,List.set_cons_succ,i64_w,i32_w]
           rfl
          refine pure_ (i:=4) (N:=some 49) (v:=?_) (a':=?_) #[true,true,false,true,true,false,false,false,false,false] rfl rfl (any_of HT_.out (by kernel_rfl)) (fun _ _ _ h=>h) (Or.inl ⟨by rfl,?_⟩) ?_ ?_
          rotate_left
          ·intro w'
           go_simp
           with_reducible rfl
          rotate_left
          ·simp only [Act.put,List.setIfInBounds_toArray,List.set_cons_zero,List.set_cons_succ,i64_w,i32_w]
           rfl
          refine pure_ (i:=5) (N:=some 50) (v:=?_) (a':=?_) #[true,true,false,true,true,true,false,false,false,false] rfl rfl (any_of HT_.out (by kernel_rfl)) (fun _ _ _ h=>h) (Or.inl ⟨by rfl,?_⟩) ?_ ?_
          rotate_left
          ·intro w'
           go_simp
           with_reducible rfl
          rotate_left
          ·simp only [Act.put,List.setIfInBounds_toArray,List.set_cons_zero,List.set_cons_succ,i64_w,i32_w]
           rfl
          refine pure_ (i:=6) (N:=some 51) (v:=?_) (a':=?_) #[true,true,false,true,true,true,true,false,false,false] rfl rfl (any_of HT_.out (by kernel_rfl)) (fun _ _ _ h=>h) (Or.inl ⟨by rfl,?_⟩) ?_ ?_
          rotate_left
          ·intro w'
           go_simp
           with_reducible rfl
          rotate_left
          ·simp only [Act.put,List.setIfInBounds_toArray,List.set_cons_zero,List.set_cons_succ,i64_w,i32_w]
           rfl
          refine pure_ (i:=7) (N:=some 52) (v:=?_) (a':=?_) #[true,true,false,true,true,true,true,true,false,false] rfl rfl (any_of HT_.out (by kernel_rfl)) (fun _ _ _ h=>h) (Or.inl ⟨by rfl,?_⟩) ?_ ?_
          rotate_left
          ·intro w'
           go_simp
           with_reducible rfl
          rotate_left
          ·simp only [Act.put,List.setIfInBounds_toArray,List.set_cons_zero,List.set_cons_succ,i64_w,i32_w]
           rfl
          refine take_ (i:=2) (N:=some 47) (v:=?_) (a':=?_) #[true,true,true,true,true,true,true,true,false,false] rfl rfl (take_ofW HT_.out HW_.out (by kernel_rfl)) (fun _ _ _ h=>h) (Or.inl ⟨by rfl,?_⟩) hHeld ?_ ?_
          rotate_left
          ·intro w' _
           go_simp
           with_reducible rfl
          rotate_left
          ·simp only [Act.put,List.setIfInBounds_toArray,List.set_cons_zero,List.set_cons_succ,i64_w,i32_w]
           rfl
          refine take_ (i:=8) (N:=some 53) (v:=?_) (a':=?_) #[true,true,true,true,true,true,true,true,true,false] rfl rfl (take_ofW HT_.out HW_.out (by kernel_rfl)) (fun _ _ _ h=>h) (Or.inl ⟨by rfl,?_⟩) hHeld ?_ ?_
          rotate_left
          ·intro w' _
           go_simp
           with_reducible rfl
          rotate_left
          ·simp only [Act.put,List.setIfInBounds_toArray,List.set_cons_zero,List.set_cons_succ,i64_w,i32_w]
           rfl
          refine pure_ (i:=9) (N:=some 54) (v:=?_) (a':=?_) #[true,true,true,true,true,true,true,true,true,true] rfl rfl (any_of HT_.out (by kernel_rfl)) (fun _ _ _ h=>h) (Or.inl ⟨by rfl,?_⟩) ?_ ?_
          rotate_left
          ·intro w'
           go_simp
           with_reducible rfl
          rotate_left
          ·simp only [Act.put,List.setIfInBounds_toArray,List.set_cons_zero,List.set_cons_succ,i64_w,i32_w]
           rfl
          refine done_ (done_of HT_.out (by kernel_rfl)) ?_
          try go_wp2
          go_roundg k4
          case measure=>have:=HK1.out;have:=HJ10.out;have:=HJ19.out;have:=HK4.out;omega
          case rel=>exact ⟨(wrap64 (x7_4 + 1)),(wrap64 (x9_4 + 1)),(by first | rfl | (simp;done) | (simp [*];done)),(by first | rfl | (simp;done) | (simp [*];done)),H',⟨by have:=HK1.out;have:=HJ10.out;have:=HJ19.out;have:=HK4.out;omega⟩,⟨by (with_reducible repeat (first | refine blk_drewN ?_ _ | refine blk_drew ?_ | refine blk_alloc ?_ _));exact BK443.out⟩,⟨by (with_reducible repeat (first | refine blk_drewN ?_ _ | refine blk_drew ?_ | refine blk_alloc ?_ _));exact BK445.out⟩,⟨by repeat (first | (with_reducible first | exact HB.out | apply below_alloc | apply pw_below_drewN | apply below_drew1 | refine below_set ?_ GE443.out | refine below_set ?_ GE445.out) | exact HB.out)⟩⟩
         rw [if_pos c33] at H
         have c33b0:((bt a0 x6_1) == (bt a0 (Go.bits .xor .i64 x6_1 (ji29)))) = true:=beq_iff_eq.mpr c33
         have c33b1:((bt a0 x6_1) != (bt a0 (Go.bits .xor .i64 x6_1 (ji29)))) = false:=bne_eq_false_iff_eq.mpr c33
         clear c33
         have H':=Aside0.mk H
         clear H
         try go_wp2
         have n0_:=Aside0.mk (blk_drew BK443.out)
         have n1_:=Aside0.mk (blk_drew BK445.out)
         have n2_:=Aside0.mk (below_drew1 HB.out)
         clear BK443
         clear BK445
         clear HB
         have BK443:=n0_
         have BK445:=n1_
         have HB:=n2_
         clear n0_ n1_ n2_
         have p27:0 ≤ (x6_1:Int):=of_decide_eq_true (by first | (with_reducible assumption) | assumption)
         have q27:x6_1 < (a0.size:Int):=of_decide_eq_true (by first | (with_reducible assumption) | assumption)
         have hx27:=bt_at a0 x6_1
         replace p27:=eq_true p27
         replace q27:=eq_true q27
         have p32:0 ≤ ((Go.bits .xor .i64 x6_1 (ji29)):Int):=of_decide_eq_true (by first | (with_reducible assumption) | assumption)
         have q32:(Go.bits .xor .i64 x6_1 (ji29)) < (a0.size:Int):=of_decide_eq_true (by first | (with_reducible assumption) | assumption)
         have hx32:=bt_at a0 (Go.bits .xor .i64 x6_1 (ji29))
         replace p32:=eq_true p32
         replace q32:=eq_true q32
         refine start_ (n:=10) (S:=fun w'=>True) (ds:=[]) #[false,false,false,false,false,false,false,false,false,false] (by kernel_rfl) rfl rfl trivial (fun hHeld=>?_);refine with_tabW numnahref01_Measures.tab15 numnahref01_Measures.bits15 (fun HT_ HW_=>?_)
         generalize wr.drew = w34 at BK443 BK445 HB hHeld ⊢
         refine pure_ (i:=0) (N:=some 45) (v:=?_) (a':=?_) #[true,false,false,false,false,false,false,false,false,false] rfl rfl (any_of HT_.out (by kernel_rfl)) (fun _ _ _ h=>h) (Or.inl ⟨by rfl,?_⟩) ?_ ?_
         rotate_left
         ·intro w'
          go_simp
          with_reducible rfl
         rotate_left
         ·simp only [Act.put,List.setIfInBounds_toArray,List.set_cons_zero,List.set_cons_succ,i64_w,i32_w]
          rfl
         refine pure_ (i:=1) (N:=some 46) (v:=?_) (a':=?_) #[true,true,false,false,false,false,false,false,false,false] rfl rfl (any_of HT_.out (by kernel_rfl)) (fun _ _ _ h=>h) (Or.inl ⟨by rfl,?_⟩) ?_ ?_
         rotate_left
         ·intro w'
          go_simp
          with_reducible rfl
         rotate_left
         ·simp only [Act.put,List.setIfInBounds_toArray,List.set_cons_zero,List.set_cons_succ,i64_w,i32_w]
          rfl
         refine pure_ (i:=3) (N:=some 48) (v:=?_) (a':=?_) #[true,true,false,true,false,false,false,false,false,false] rfl rfl (any_of HT_.out (by kernel_rfl)) (fun _ _ _ h=>h) (Or.inl ⟨by rfl,?_⟩) ?_ ?_
         rotate_left
         ·intro w'
          go_simp
          with_reducible rfl
         rotate_left
         ·simp only [Act.put,List.setIfInBounds_toArray,List.set_cons_zero,List.set_cons_succ,i64_w,i32_w]
          rfl
         refine pure_ (i:=4) (N:=some 49) (v:=?_) (a':=?_) #[true,true,false,true,true,false,false,false,false,false] rfl rfl (any_of HT_.out (by kernel_rfl)) (fun _ _ _ h=>h) (Or.inl ⟨by rfl,?_⟩) ?_ ?_
         rotate_left
         ·intro w'
          go_simp
          with_reducible rfl
         rotate_left
         ·simp only [Act.put,List.setIfInBounds_toArray,List.set_cons_zero,List.set_cons_succ,i64_w,i32_w]
          rfl
         refine pure_ (i:=5) (N:=some 50) (v:=?_) (a':=?_) #[true,true,false,true,true,true,false,false,false,false] rfl rfl (any_of HT_.out (by kernel_rfl)) (fun _ _ _ h=>h) (Or.inl ⟨by rfl,?_⟩) ?_ ?_
         rotate_left
         ·intro w'
          go_simp
          with_reducible rfl
         rotate_left
         ·simp only [Act.put,List.setIfInBounds_toArray,List.set_cons_zero,List.set_cons_succ,i64_w,i32_w]
          rfl
         refine pure_ (i:=6) (N:=some 51) (v:=?_) (a':=?_) #[true,true,false,true,true,true,true,false,false,false] rfl rfl (any_of HT_.out (by kernel_rfl)) (fun _ _ _ h=>h) (Or.inl ⟨by rfl,?_⟩) ?_ ?_
         rotate_left
         ·intro w'
          go_simp
          with_reducible rfl
         rotate_left
         ·simp only [Act.put,List.setIfInBounds_toArray,List.set_cons_zero,List.set_cons_succ,i64_w,i32_w]
          rfl
         refine pure_ (i:=7) (N:=some 52) (v:=?_) (a':=?_) #[true,true,false,true,true,true,true,true,false,false] rfl rfl (any_of HT_.out (by kernel_rfl)) (fun _ _ _ h=>h) (Or.inl ⟨by rfl,?_⟩) ?_ ?_
         rotate_left
         ·intro w'
          go_simp
          with_reducible rfl
         rotate_left
         ·simp only [Act.put,List.setIfInBounds_toArray,List.set_cons_zero,List.set_cons_succ,i64_w,i32_w]
          rfl
         refine take_ (i:=2) (N:=some 47) (v:=?_) (a':=?_) #[true,true,true,true,true,true,true,true,false,false] rfl rfl (take_ofW HT_.out HW_.out (by kernel_rfl)) (fun _ _ _ h=>h) (Or.inl ⟨by rfl,?_⟩) hHeld ?_ ?_
         rotate_left
         ·intro w' _
          go_simp
          with_reducible rfl
         rotate_left
         ·simp only [Act.put,List.setIfInBounds_toArray,List.set_cons_zero,List.set_cons_succ,i64_w,i32_w]
          rfl
         refine take_ (i:=8) (N:=some 53) (v:=?_) (a':=?_) #[true,true,true,true,true,true,true,true,true,false] rfl rfl (take_ofW HT_.out HW_.out (by kernel_rfl)) (fun _ _ _ h=>h) (Or.inl ⟨by rfl,?_⟩) hHeld ?_ ?_
         rotate_left
         ·intro w' _
          go_simp
          with_reducible rfl
         rotate_left
         ·simp only [Act.put,List.setIfInBounds_toArray,List.set_cons_zero,List.set_cons_succ,i64_w,i32_w]
          rfl
         refine pure_ (i:=9) (N:=some 54) (v:=?_) (a':=?_) #[true,true,true,true,true,true,true,true,true,true] rfl rfl (any_of HT_.out (by kernel_rfl)) (fun _ _ _ h=>h) (Or.inl ⟨by rfl,?_⟩) ?_ ?_
         rotate_left
         ·intro w'
          go_simp
          with_reducible rfl
         rotate_left
         ·simp only [Act.put,List.setIfInBounds_toArray,List.set_cons_zero,List.set_cons_succ,i64_w,i32_w]
          rfl
         refine done_ (done_of HT_.out (by kernel_rfl)) ?_
         try go_wp2
         go_roundg k4
         case measure=>have:=HK1.out;have:=HJ10.out;have:=HJ19.out;have:=HK4.out;omega
         case rel=>exact ⟨(x7_4),(wrap64 (x9_4 + 1)),(by first | rfl | (simp;done) | (simp [*];done)),(by first | rfl | (simp;done) | (simp [*];done)),H',⟨by have:=HK1.out;have:=HJ10.out;have:=HJ19.out;have:=HK4.out;omega⟩,⟨by (with_reducible repeat (first | refine blk_drewN ?_ _ | refine blk_drew ?_ | refine blk_alloc ?_ _));exact BK443.out⟩,⟨by (with_reducible repeat (first | refine blk_drewN ?_ _ | refine blk_drew ?_ | refine blk_alloc ?_ _));exact BK445.out⟩,⟨by repeat (first | (with_reducible first | exact HB.out | apply below_alloc | apply pw_below_drewN | apply below_drew1 | refine below_set ?_ GE443.out | refine below_set ?_ GE445.out) | exact HB.out)⟩⟩
end Go.Proofs.Ythpahlkhiknofaa.G
set_option linter.unusedSectionVars false
namespace Go.Proofs.Ythpahlkhiknofaa.P
open Go Go.RowKit Go.Proofs.Ythpahlkhiknofaa.M Go.Proofs.Ythpahlkhiknofaa.G
open Go.Proofs.YthpahlkhiknofaaW.PrintWords Go.Proofs.YthpahlkhiknofaaW.PrintMore
def popN (a:Nat):Nat:=a % 2 + a / 2 % 2 + a / 4 % 2 + a / 8 % 2 + a / 16 % 2
theorem pop_f:∀ a:Fin 32,bits_OnesCount.f (IntKind.u64.wrap (a.val:Int)) = some (popN a.val:Int):=by decide +kernel
theorem digits_f:∀ a:Fin 32,numnahref01_digits.f 10 (a.val:Int) = some (popN a.val:Int):=by decide +kernel
theorem ev_digits {a:Nat} (h:a < 32):Ev (fun k=>numnahref01_digits.f k (a:Int)) (popN a:Int):=Ev.of (fun k=>numnahref01_digits.mono _ k) (digits_f ⟨a,h⟩)
theorem str_size (xs:List Int):(strOfNums xs).size = xs.length:=by
  unfold strOfNums
  show (xs.map fun n=>UInt8.ofNat n.toNat).toArray.size = xs.length
  simp
theorem str_bt {xs:List Int} {i:Nat} (h:i < xs.length) (h0:0 ≤ xs[i]) (h1:xs[i] < 256):bt (strOfNums xs) (i:Int) = xs[i]:=by
  have hs:i < (strOfNums xs).size:=by rw [str_size];exact h
  rw [bt_get hs]
  have e:(strOfNums xs)[i] = UInt8.ofNat xs[i].toNat:=by
    show (xs.map fun n=>UInt8.ofNat n.toNat).toArray[i]'(by simpa using h) = _
    simp
  rw [e,UInt8.toNat_ofNat_of_lt' (by show xs[i].toNat < 256;omega)]
  omega
def senN (c:ByteArray) (p:Nat):Nat → Nat
  | 0=>0
  | i + 1=>if bt c (p:Int) = bt c ((p ^^^ 2 ^ i:Nat):Int) then senN c p i else senN c p i + 1
theorem senN_le (c:ByteArray) (p:Nat):∀ i,senN c p i ≤ i
  | 0=>Nat.le_refl _
  | i + 1=>by
    have:=senN_le c p i
    rw [senN];split <;> omega
def dcdB (c:ByteArray) (p care:Nat) (d i:Nat):Bool:=allF (fun q=>!((p ^^^ q) &&& care == 0) || decide (bt c (q:Int) = bt c (p:Int))) d i
def cerN (c:ByteArray) (n p:Nat):Nat → Nat
  | 0=>n
  | a + 1=>if popN a < cerN c n p a ∧ dcdB c p a c.size 0 = true then popN a else cerN c n p a
section
variable {c:ByteArray} {n:Nat} (hT:Tot c n)
include hT
theorem pow_small {i:Nat} (hi:i < n):2 ^ i ≤ 16:=by
  have h5:=hT.n5
  have:2 ^ i ≤ 2 ^ 4:=Nat.pow_le_pow_right (by decide) (by omega)
  omega
theorem xor_in {p i:Nat} (hp:p < c.size) (hi:i < n):Go.bits .xor .i64 (p:Int) (shl .i64 1 (i:Int)) = ((p ^^^ 2 ^ i:Nat):Int) ∧ p ^^^ 2 ^ i < c.size:=by
  have h5:=hT.n5
  have hle:=hT.le
  have h2:=pow_small hT hi
  refine ⟨?_,?_⟩
  · rw [shl_one (by omega)]
    exact xor_small ⟨p,by omega⟩ ⟨2 ^ i,by omega⟩
  · rw [hT.size] at hp ⊢
    exact Nat.xor_lt_two_pow hp (Nat.pow_lt_pow_right (by decide) hi)
theorem sens_l0 {p:Nat} (hp:p < c.size):∀ d i,i + d = n → Ev (fun k=>card_function_sensitivity.l0 k (p:Int) (senN c p i:Int) (n:Int) (i:Int) (n:Int) c) (senN c p n:Int):=by
  have h5:=hT.n5
  intro d
  induction d with
  | zero =>
    intro i hi
    obtain rfl:i = n:=by omega
    refine Ev.step (f:=fun _=>some (senN c p i:Int)) (fun k=>?_) (Ev.now _)
    rw [card_function_sensitivity.l0,if_neg (by omega)]
  | succ d ih =>
    intro i hi
    have hnx:=ih (i + 1) (by omega)
    obtain ⟨e1,e2⟩:=xor_in hT hp (show i < n by omega)
    have hs:=senN_le c p i
    rw [senN] at hnx
    refine Ev.step (fun k=>by rw [card_function_sensitivity.l0,if_pos (by omega),if_pos (by omega),if_pos (by omega),if_pos (by omega),e1,if_pos (by omega),if_pos (by omega),wrap_succ (by omega),wrap_succ (by omega)]) ?_
    by_cases h:bt c (p:Int) = bt c ((p ^^^ 2 ^ i:Nat):Int)
    · rw [if_pos h] at hnx
      exact Ev.congr (fun k=>if_pos h) hnx
    · rw [if_neg h] at hnx
      exact Ev.congr (fun k=>if_neg h) hnx
theorem dcd_cond {p q a:Nat} (hp:p < c.size) (hq:q < c.size) (ha:a < c.size):(Go.bits .and .i64 (Go.bits .xor .i64 (p:Int) (q:Int)) (a:Int) = 0) ↔ ((p ^^^ q) &&& a == 0) = true:=by
  have hle:=hT.le
  have h1:Go.bits .xor .i64 (p:Int) (q:Int) = ((p ^^^ q:Nat):Int):=xor_small ⟨p,by omega⟩ ⟨q,by omega⟩
  have h2:p ^^^ q < 2 ^ 5:=Nat.xor_lt_two_pow (show p < 2 ^ 5 by omega) (show q < 2 ^ 5 by omega)
  rw [h1,ni_and _ _ (by omega) (by omega),beq_iff_eq]
  exact ⟨fun h=>by exact_mod_cast h,fun h=>by rw [h];rfl⟩
theorem dcd_l0 {p a:Nat} (hp:p < c.size) (ha:a < c.size):∀ d q,q + d = c.size → Ev (fun k=>card_function_decided.l0 k (p:Int) (a:Int) (c.size:Int) (q:Int) (n:Int) c) (dcdB c p a d q):=by
  intro d
  induction d with
  | zero =>
    intro q hq
    refine Ev.step (f:=fun _=>some true) (fun k=>?_) (Ev.now _)
    rw [card_function_decided.l0,if_neg (by omega)]
  | succ d ih =>
    intro q hq
    have hnx:=ih (q + 1) (by omega)
    have hcond:=dcd_cond hT hp (show q < c.size by omega) ha
    unfold dcdB at hnx ⊢
    rw [allF]
    refine Ev.step (fun k=>by rw [card_function_decided.l0,if_pos (by omega),wrap_succ (by have:=hT.le;omega)]) ?_
    by_cases h:((p ^^^ q) &&& a == 0) = true
    · rw [h,Bool.not_true,Bool.false_or]
      refine Ev.congr (fun k=>if_pos (hcond.2 h)) (Ev.congr (fun k=>if_pos (by omega)) (Ev.congr (fun k=>if_pos (by omega)) (Ev.congr (fun k=>if_pos (by omega)) (Ev.congr (fun k=>if_pos (by omega)) ?_))))
      by_cases h2:bt c (q:Int) = bt c (p:Int)
      · rw [decide_eq_true h2,Bool.true_and]
        exact Ev.congr (fun k=>if_pos h2) hnx
      · rw [decide_eq_false h2,Bool.false_and]
        exact Ev.congr (fun k=>if_neg h2) (Ev.now _)
    · have h':((p ^^^ q) &&& a == 0) = false:=by simpa using h
      rw [h',Bool.not_false,Bool.true_or,Bool.true_and]
      exact Ev.congr (fun k=>if_neg (fun h2=>h (hcond.1 h2))) hnx
theorem rdcd_l0 {p a:Nat} (hp:p < c.size) (ha:a < c.size):∀ d q,q + d = c.size → Ev (fun k=>numnahref01_decides.l0 k c (p:Int) (a:Int) (q:Int)) (dcdB c p a d q):=by
  intro d
  induction d with
  | zero =>
    intro q hq
    refine Ev.step (f:=fun _=>some true) (fun k=>?_) (Ev.now _)
    rw [numnahref01_decides.l0,if_neg (by omega)]
  | succ d ih =>
    intro q hq
    have hnx:=ih (q + 1) (by omega)
    have hcond:=dcd_cond hT hp (show q < c.size by omega) ha
    unfold dcdB at hnx ⊢
    rw [allF]
    refine Ev.step (fun k=>by rw [numnahref01_decides.l0,if_pos (by omega),wrap_succ (by have:=hT.le;omega)]) ?_
    by_cases h:((p ^^^ q) &&& a == 0) = true
    · rw [h,Bool.not_true,Bool.false_or]
      refine Ev.congr (fun k=>if_pos (hcond.2 h)) (Ev.congr (fun k=>if_pos (by omega)) (Ev.congr (fun k=>if_pos (by omega)) (Ev.congr (fun k=>if_pos (by omega)) ?_)))
      by_cases h2:bt c (q:Int) = bt c (p:Int)
      · rw [decide_eq_true h2,Bool.true_and]
        exact Ev.congr (fun k=>if_pos h2) hnx
      · rw [decide_eq_false h2,Bool.false_and]
        exact Ev.congr (fun k=>if_neg h2) (Ev.now _)
    · have h':((p ^^^ q) &&& a == 0) = false:=by simpa using h
      rw [h',Bool.not_false,Bool.true_or,Bool.true_and]
      exact Ev.congr (fun k=>if_neg (fun h2=>h (hcond.1 h2))) hnx
theorem cert_l0 {p:Nat} (hp:p < c.size):∀ d a,a + d = c.size → Ev (fun k=>card_function_certificate.l0 k (p:Int) (cerN c n p a:Int) (c.size:Int) (a:Int) (n:Int) c) (cerN c n p c.size:Int):=by
  have hle:=hT.le
  intro d
  induction d with
  | zero =>
    intro a ha
    obtain rfl:a = c.size:=by omega
    refine Ev.step (f:=fun _=>some (cerN c n p c.size:Int)) (fun k=>?_) (Ev.now _)
    rw [card_function_certificate.l0,if_neg (by omega)]
  | succ d ih =>
    intro a ha
    have hnx:=ih (a + 1) (by omega)
    rw [cerN] at hnx
    have hd:Ev (fun k=>card_function_decided.f k (n:Int) c (p:Int) (a:Int)) (dcdB c p a c.size 0):=dcd_l0 hT hp (by omega) c.size 0 (by omega)
    refine Ev.step (fun k=>by rw [card_function_certificate.l0,if_pos (by omega),pop_f ⟨a,by omega⟩,Option.bind_some,wrap_succ (by omega)]) ?_
    by_cases h:popN a < cerN c n p a
    · refine Ev.congr (fun k=>if_pos (by show (popN a:Int) < _;omega)) (Ev.bind hd ?_)
      by_cases h2:dcdB c p a c.size 0 = true
      · rw [if_pos ⟨h,h2⟩] at hnx
        exact Ev.congr (fun k=>if_pos h2) hnx
      · rw [if_neg (fun h3=>h2 h3.2)] at hnx
        exact Ev.congr (fun k=>if_neg h2) hnx
    · rw [if_neg (fun h3=>h h3.1)] at hnx
      exact Ev.congr (fun k=>if_neg (by show ¬ (popN a:Int) < _;omega)) hnx
theorem ones_l0:∀ d i,i + d = c.size → Ev (fun k=>card_function_ones.l0 k (((List.range i).filter (vB c)).map Int.ofNat) (c.size:Int) (i:Int) (n:Int) c) (((List.range c.size).filter (vB c)).map Int.ofNat):=by
  have hle:=hT.le
  intro d
  induction d with
  | zero =>
    intro i hi
    obtain rfl:i = c.size:=by omega
    refine Ev.step (f:=fun _=>some (((List.range c.size).filter (vB c)).map Int.ofNat)) (fun k=>?_) (Ev.now _)
    rw [card_function_ones.l0,if_neg (by omega)]
  | succ d ih =>
    intro i hi
    have hnx:=ih (i + 1) (by omega)
    rw [List.range_succ,List.filter_append,List.map_append] at hnx
    have hl:(((List.range i).filter (vB c)).map Int.ofNat).length ≤ i:=by
      rw [List.length_map]
      exact Nat.le_trans (List.length_filter_le _ _) (by rw [List.length_range];exact Nat.le_refl _)
    refine Ev.step (fun k=>by rw [card_function_ones.l0,if_pos (by omega),if_pos (by omega),if_pos (by omega),wrap_succ (by omega)]) ?_
    by_cases h:bt c (i:Int) = 49
    · have hv:vB c i = true:=decide_eq_true h
      have e:(([i].filter (vB c)).map Int.ofNat) = [(i:Int)]:=by simp [hv]
      rw [e] at hnx
      exact Ev.congr (fun k=>if_pos h) (Ev.congr (fun k=>if_pos (by omega)) hnx)
    · have hv:vB c i = false:=decide_eq_false h
      have e:(([i].filter (vB c)).map Int.ofNat) = []:=by simp [hv]
      rw [e,List.append_nil] at hnx
      exact Ev.congr (fun k=>if_neg h) hnx
def cntN (c:ByteArray) (i:Nat):Nat:=((List.range i).filter (vB c)).length
omit hT in
theorem cntN_succ (c:ByteArray) (i:Nat):cntN c (i + 1) = if vB c i = true then cntN c i + 1 else cntN c i:=by
  unfold cntN
  rw [List.range_succ,List.filter_append,List.length_append]
  by_cases h:vB c i = true
  · rw [if_pos h];simp [h]
  · rw [if_neg h];simp [h]
omit hT in
theorem cntN_le (c:ByteArray) (i:Nat):cntN c i ≤ i:=by
  unfold cntN
  exact Nat.le_trans (List.length_filter_le _ _) (by rw [List.length_range];exact Nat.le_refl _)
def degI (c:ByteArray) (n:Nat):Nat → Int
  | 0=>0
  | p + 1=>if sumA c n p = true then mx (degI c n p) (popN p:Int) else degI c n p
def senI (c:ByteArray) (n:Nat):Nat → Int
  | 0=>0
  | p + 1=>mx (senI c n p) (senN c p n:Int)
def cerI (c:ByteArray) (n:Nat):Nat → Int
  | 0=>0
  | p + 1=>mx (cerI c n p) (cerN c n p c.size:Int)
theorem sumS_size:(sumS c n).size = c.size:=by unfold sumS;rw [str_size,tabI_len]
theorem sumS_bt {p:Nat} (hp:p < c.size):(bt (sumS c n) (p:Int) = 49) ↔ sumA c n p = true:=by
  unfold sumS
  have hl:p < (tabI c.size fun q=>dig (sumA c n q)).length:=by rw [tabI_len];exact hp
  have e:(tabI c.size fun q=>dig (sumA c n q))[p] = dig (sumA c n p):=by simp [tabI]
  rw [str_bt hl (by rw [e];unfold dig;split <;> omega) (by rw [e];unfold dig;split <;> omega),e]
  unfold dig
  cases sumA c n p <;> simp
theorem meas_l0:∀ d p,p + d = c.size → Ev (fun k=>card_Measures.l0 k (sumS c n) (c.size:Int) (p:Int) (n:Int) c (degI c n p) (senI c n p) (cerI c n p) 0) (degI c n c.size,senI c n c.size,cerI c n c.size,(cntN c c.size:Int),0):=by
  have hle:=hT.le
  have hs:=sumS_size hT
  have h5:=hT.n5
  intro d
  induction d with
  | zero =>
    intro p hp
    obtain rfl:p = c.size:=by omega
    have e0:Ev (fun k=>card_function_ones.f k (n:Int) c) (((List.range c.size).filter (vB c)).map Int.ofNat):=ones_l0 hT c.size 0 (by omega)
    refine Ev.step (fun k=>by rw [card_Measures.l0,if_neg (by omega)]) (Ev.bind e0 ?_)
    have e:((((List.range c.size).filter (vB c)).map Int.ofNat).length:Int) = (cntN c c.size:Int):=by unfold cntN;rw [List.length_map]
    rw [e]
    exact Ev.now _
  | succ d ih =>
    intro p hp
    have hpl:p < c.size:=by omega
    have hnx:=ih (p + 1) (by omega)
    rw [degI,senI,cerI] at hnx
    have e1:Ev (fun k=>card_function_sensitivity.f k (n:Int) c (p:Int)) (senN c p n:Int):=sens_l0 hT hpl n 0 (by omega)
    have e2:Ev (fun k=>card_function_certificate.f k (n:Int) c (p:Int)) (cerN c n p c.size:Int):=by
      unfold card_function_certificate.f
      refine Ev.congr (fun k=>if_pos (by omega)) ?_
      have:=cert_l0 hT hpl c.size 0 (by omega)
      rw [shl_one (by omega),← hT.size]
      exact this
    refine Ev.step (fun k=>by rw [card_Measures.l0,if_pos (by omega),if_pos (by omega),if_pos (by omega),wrap_succ (by omega)]) ?_
    have hb:=sumS_bt hT hpl
    by_cases h:sumA c n p = true
    · rw [if_pos h] at hnx
      refine Ev.congr (fun k=>if_pos (hb.2 h)) ?_
      rw [pop_f ⟨p,by omega⟩]
      exact Ev.congr (fun k=>Option.bind_some _ _) (Ev.bind e1 (Ev.bind e2 hnx))
    · rw [if_neg h] at hnx
      exact Ev.congr (fun k=>if_neg (fun h2=>h (hb.1 h2))) (Ev.bind e1 (Ev.bind e2 hnx))
theorem rmeas_l2 {p:Nat} (hp:p < c.size) {a b z:Int} {s:Nat} {cn:Int} {v:Int × Int × Int × Int} (hv:Ev (fun k=>numnahref01_Measures.l0 k c (n:Int) (sumS c n) ((p + 1:Nat):Int) a (mx b (s:Int)) (mx z (cerN c n p c.size:Int)) cn) v):∀ d i,i + d = c.size → Ev (fun k=>numnahref01_Measures.l2 k c (n:Int) (sumS c n) (p:Int) (s:Int) (cerN c n p i:Int) (i:Int) a b z cn) v:=by
  have hle:=hT.le
  have h5:=hT.n5
  intro d
  induction d with
  | zero =>
    intro i hi
    obtain rfl:i = c.size:=by omega
    refine Ev.step (fun k=>?_) hv
    rw [numnahref01_Measures.l2,if_pos (by omega),shl_one (by omega),← hT.size,if_neg (by omega),wrap_succ (by omega)]
  | succ d ih =>
    intro i hi
    have hnx:=ih (i + 1) (by omega)
    rw [cerN] at hnx
    have hd:Ev (fun k=>numnahref01_decides.f k c (p:Int) (i:Int)) (dcdB c p i c.size 0):=rdcd_l0 hT hp (by omega) c.size 0 (by omega)
    have hdg:=ev_digits (show i < 32 by omega)
    refine Ev.step (fun k=>by rw [numnahref01_Measures.l2,if_pos (by omega),shl_one (by omega),← hT.size,if_pos (by omega),wrap_succ (by omega)]) (Ev.bind hdg ?_)
    by_cases h:popN i < cerN c n p i
    · refine Ev.congr (fun k=>if_pos (by omega)) (Ev.bind hd ?_)
      by_cases h2:dcdB c p i c.size 0 = true
      · rw [if_pos ⟨h,h2⟩] at hnx
        exact Ev.congr (fun k=>if_pos h2) (Ev.bind hdg hnx)
      · rw [if_neg (fun h3=>h2 h3.2)] at hnx
        exact Ev.congr (fun k=>if_neg h2) hnx
    · rw [if_neg (fun h3=>h h3.1)] at hnx
      exact Ev.congr (fun k=>if_neg (by omega)) hnx
theorem rmeas_l1 {p:Nat} (hp:p < c.size) {a b z cn:Int} {v:Int × Int × Int × Int} (hv:Ev (fun k=>numnahref01_Measures.l2 k c (n:Int) (sumS c n) (p:Int) (senN c p n:Int) (n:Int) 0 a b z cn) v):∀ d i,i + d = n → Ev (fun k=>numnahref01_Measures.l1 k c (n:Int) (sumS c n) (p:Int) (senN c p i:Int) (n:Int) (i:Int) a b z cn) v:=by
  have h5:=hT.n5
  intro d
  induction d with
  | zero =>
    intro i hi
    obtain rfl:i = n:=by omega
    refine Ev.step (fun k=>?_) hv
    rw [numnahref01_Measures.l1,if_neg (by omega)]
  | succ d ih =>
    intro i hi
    have hnx:=ih (i + 1) (by omega)
    obtain ⟨e1,e2⟩:=xor_in hT hp (show i < n by omega)
    have hs:=senN_le c p i
    rw [senN] at hnx
    refine Ev.step (fun k=>by rw [numnahref01_Measures.l1,if_pos (by omega),if_pos (by omega),if_pos (by omega),if_pos (by omega),e1,if_pos (by omega),if_pos (by omega),wrap_succ (by omega),wrap_succ (by omega)]) ?_
    by_cases h:bt c (p:Int) = bt c ((p ^^^ 2 ^ i:Nat):Int)
    · rw [if_pos h] at hnx
      exact Ev.congr (fun k=>if_pos h) hnx
    · rw [if_neg h] at hnx
      exact Ev.congr (fun k=>if_neg h) hnx
theorem rmeas_l0:∀ d p,p + d = c.size → Ev (fun k=>numnahref01_Measures.l0 k c (n:Int) (sumS c n) (p:Int) (degI c n p) (senI c n p) (cerI c n p) (cntN c p:Int)) (degI c n c.size,senI c n c.size,cerI c n c.size,(cntN c c.size:Int)):=by
  have hle:=hT.le
  have hs:=sumS_size hT
  intro d
  induction d with
  | zero =>
    intro p hp
    obtain rfl:p = c.size:=by omega
    refine Ev.step (f:=fun _=>some (degI c n c.size,senI c n c.size,cerI c n c.size,(cntN c c.size:Int))) (fun k=>?_) (Ev.now _)
    rw [numnahref01_Measures.l0,if_neg (by omega)]
  | succ d ih =>
    intro p hp
    have hpl:p < c.size:=by omega
    have hnx:=ih (p + 1) (by omega)
    rw [degI,senI,cerI] at hnx
    have hcl:=cntN_le c p
    have l2:=fun (a:Int) (cn:Int) (hh:Ev (fun k=>numnahref01_Measures.l0 k c (n:Int) (sumS c n) ((p + 1:Nat):Int) a (mx (senI c n p) (senN c p n:Int)) (mx (cerI c n p) (cerN c n p c.size:Int)) cn) (degI c n c.size,senI c n c.size,cerI c n c.size,(cntN c c.size:Int)))=>rmeas_l1 hT hpl (rmeas_l2 hT hpl (a:=a) (cn:=cn) hh c.size 0 (by omega)) n 0 (by omega)
    have j1:∀ a:Int,Ev (fun k=>numnahref01_Measures.l0 k c (n:Int) (sumS c n) ((p + 1:Nat):Int) a (mx (senI c n p) (senN c p n:Int)) (mx (cerI c n p) (cerN c n p c.size:Int)) (cntN c (p + 1):Int)) (degI c n c.size,senI c n c.size,cerI c n c.size,(cntN c c.size:Int)) → Ev (fun k=>numnahref01_Measures.j1 k c (n:Int) (sumS c n) (p:Int) a (senI c n p) (cerI c n p) (cntN c p:Int)) (degI c n c.size,senI c n c.size,cerI c n c.size,(cntN c c.size:Int)):=fun a hh=>by
      rw [cntN_succ] at hh
      refine Ev.step (fun k=>by rw [numnahref01_Measures.j1,if_pos (by omega),if_pos (by omega),wrap_succ (by omega)]) ?_
      by_cases h:bt c (p:Int) = 49
      · have hv:vB c p = true:=decide_eq_true h
        rw [if_pos hv] at hh
        refine Ev.congr (fun k=>if_pos h) (Ev.step (fun k=>?_) (l2 a _ hh))
        rw [numnahref01_Measures.j2];rfl
      · have hv:vB c p = false:=decide_eq_false h
        rw [hv,if_neg (by decide)] at hh
        refine Ev.congr (fun k=>if_neg h) (Ev.step (fun k=>?_) (l2 a _ hh))
        rw [numnahref01_Measures.j2];rfl
    have hb:=sumS_bt hT hpl
    refine Ev.step (fun k=>by rw [numnahref01_Measures.l0,if_pos (by omega),if_pos (by omega),if_pos (by omega)]) ?_
    by_cases h:sumA c n p = true
    · rw [if_pos h] at hnx
      exact Ev.congr (fun k=>if_pos (hb.2 h)) (Ev.bind (ev_digits (by omega)) (j1 _ hnx))
    · rw [if_neg h] at hnx
      exact Ev.congr (fun k=>if_neg (fun h2=>h (hb.1 h2))) (j1 _ hnx)
theorem mono_l1 {p:Nat} (hp:p < c.size) (hc:c.size ≤ 40) (hfn:fnN c = n) (hnx:∃ r:Int × Int,Ev (fun k=>card_Monotone.l0 k c (c.size:Int) ((p + 1:Nat):Int) (n:Int) c) (r.1,r.2,0) ∧ Ev (fun k=>numnahref01_Monotone.l0 k c ((p + 1:Nat):Int)) r):∀ d i,i + d = n → ∃ r:Int × Int,Ev (fun k=>card_Monotone.l1 k c (p:Int) (c.size:Int) (p:Int) (n:Int) (i:Int) (n:Int) c) (r.1,r.2,0) ∧ Ev (fun k=>numnahref01_Monotone.l1 k c (p:Int) (i:Int)) r:=by
  have hle:=hT.le
  have h5:=hT.n5
  have hev:=ev_vars hc
  rw [hfn] at hev
  intro d
  induction d with
  | zero =>
    intro i hi
    obtain rfl:i = n:=by omega
    obtain ⟨r,h1,h2⟩:=hnx
    have s2:∀ k,numnahref01_Monotone.l1 (k + 1) c (p:Int) (i:Int) = _:=fun k=>by rw [numnahref01_Monotone.l1,wrap_succ (i:=i) (by omega),wrap_succ (i:=p) (by omega)]
    refine ⟨r,Ev.step (fun k=>?_) h1,Ev.step s2 (Ev.bind hev (Ev.congr (fun k=>if_neg (by omega)) h2))⟩
    rw [card_Monotone.l1,if_neg (by omega),wrap_succ (by omega)]
  | succ d ih =>
    intro i hi
    obtain ⟨r,h1,h2⟩:=ih (i + 1) (by omega)
    have hpw:p >>> i < 2 ^ 60:=Nat.lt_of_le_of_lt (by rw [Nat.shiftRight_eq_div_pow];exact Nat.div_le_self _ _) (show p < 2 ^ 60 by omega)
    have hbit:Go.bits .and .i64 (shr .i64 (p:Int) (i:Int)) 1 = if p.testBit i = true then 1 else 0:=by
      rw [shr_nat (by omega),and_one _ hpw,Nat.testBit_eq_decide_div_mod_eq,← Nat.shiftRight_eq_div_pow]
      rcases Nat.mod_two_eq_zero_or_one (p >>> i) with h | h <;> simp [h]
    have hdig:=digit (p:=p) (i:=i) (by omega)
    have s1:∀ k,card_Monotone.l1 (k + 1) c (p:Int) (c.size:Int) (p:Int) (n:Int) (i:Int) (n:Int) c = _:=fun k=>by rw [card_Monotone.l1,if_pos (by omega),if_pos (by omega),hbit,wrap_succ (by omega)]
    have s2:∀ k,numnahref01_Monotone.l1 (k + 1) c (p:Int) (i:Int) = _:=fun k=>by rw [numnahref01_Monotone.l1,hdig,wrap_succ (by omega)]
    by_cases hb:p.testBit i = true
    · refine ⟨r,Ev.step s1 (Ev.congr (fun k=>if_neg (by rw [if_pos hb];decide)) h1),Ev.step s2 (Ev.bind hev (Ev.congr (fun k=>if_pos (by omega)) (Ev.congr (fun k=>if_pos (by omega)) (Ev.congr (fun k=>if_neg (by rw [if_pos hb];decide)) h2))))⟩
    · have hb':p.testBit i = false:=by simpa using hb
      have e0:(if p.testBit i = true then (1:Int) else 0) = 0:=by rw [if_neg hb]
      have h2i:=pow_small hT (show i < n by omega)
      have hor:=add_or ⟨p,by omega⟩ ⟨i,by omega⟩ hb'
      simp only at hor
      have hlt:p ||| 2 ^ i < c.size:=by
        rw [hT.size] at hp ⊢
        exact Nat.or_lt_two_pow hp (Nat.pow_lt_pow_right (by decide) (by omega))
      have i1:Go.bits .or .i64 (p:Int) (shl .i64 1 (i:Int)) = ((p ||| 2 ^ i:Nat):Int):=by
        rw [shl_one (by omega)];exact ni_or p (2 ^ i) (by omega) (by omega)
      have i2:wrap64 ((p:Int) + shl .i64 1 (i:Int)) = ((p ||| 2 ^ i:Nat):Int):=by
        rw [shl_one (by omega),wrap_id (by omega) (by omega),← hor];omega
      rw [i1] at s1
      rw [i2] at s2
      by_cases h49:bt c (p:Int) = 49
      · by_cases h48:bt c ((p ||| 2 ^ i:Nat):Int) = 48
        · refine ⟨((p:Int),(i:Int)),Ev.step s1 (Ev.congr (fun k=>if_pos e0) (Ev.congr (fun k=>if_pos (by omega)) (Ev.congr (fun k=>if_pos (by omega)) (Ev.congr (fun k=>if_pos h49) (Ev.congr (fun k=>if_pos (by omega)) (Ev.congr (fun k=>if_pos (by omega)) (Ev.congr (fun k=>if_pos h48) (Ev.now _)))))))),Ev.step s2 (Ev.bind hev (Ev.congr (fun k=>if_pos (by omega)) (Ev.congr (fun k=>if_pos (by omega)) (Ev.congr (fun k=>if_pos e0) (Ev.congr (fun k=>if_pos (by omega)) (Ev.congr (fun k=>if_pos (by omega)) (Ev.congr (fun k=>if_pos h49) (Ev.congr (fun k=>if_pos (by omega)) (Ev.congr (fun k=>if_pos (by omega)) (Ev.congr (fun k=>if_pos h48) (Ev.now _)))))))))))⟩
        · refine ⟨r,Ev.step s1 (Ev.congr (fun k=>if_pos e0) (Ev.congr (fun k=>if_pos (by omega)) (Ev.congr (fun k=>if_pos (by omega)) (Ev.congr (fun k=>if_pos h49) (Ev.congr (fun k=>if_pos (by omega)) (Ev.congr (fun k=>if_pos (by omega)) (Ev.congr (fun k=>if_neg h48) h1))))))),Ev.step s2 (Ev.bind hev (Ev.congr (fun k=>if_pos (by omega)) (Ev.congr (fun k=>if_pos (by omega)) (Ev.congr (fun k=>if_pos e0) (Ev.congr (fun k=>if_pos (by omega)) (Ev.congr (fun k=>if_pos (by omega)) (Ev.congr (fun k=>if_pos h49) (Ev.congr (fun k=>if_pos (by omega)) (Ev.congr (fun k=>if_pos (by omega)) (Ev.congr (fun k=>if_neg h48) h2))))))))))⟩
      · refine ⟨r,Ev.step s1 (Ev.congr (fun k=>if_pos e0) (Ev.congr (fun k=>if_pos (by omega)) (Ev.congr (fun k=>if_pos (by omega)) (Ev.congr (fun k=>if_neg h49) h1)))),Ev.step s2 (Ev.bind hev (Ev.congr (fun k=>if_pos (by omega)) (Ev.congr (fun k=>if_pos (by omega)) (Ev.congr (fun k=>if_pos e0) (Ev.congr (fun k=>if_pos (by omega)) (Ev.congr (fun k=>if_pos (by omega)) (Ev.congr (fun k=>if_neg h49) h2)))))))⟩
theorem mono_l0 (hc:c.size ≤ 40) (hfn:fnN c = n):∀ d p,p + d = c.size → ∃ r:Int × Int,Ev (fun k=>card_Monotone.l0 k c (c.size:Int) (p:Int) (n:Int) c) (r.1,r.2,0) ∧ Ev (fun k=>numnahref01_Monotone.l0 k c (p:Int)) r:=by
  intro d
  induction d with
  | zero =>
    intro p hp
    refine ⟨(-1,-1),Ev.step (f:=fun _=>some (-1,-1,0)) (fun k=>?_) (Ev.now _),Ev.step (f:=fun _=>some (-1,-1)) (fun k=>?_) (Ev.now _)⟩
    · rw [card_Monotone.l0,if_neg (by omega)]
    · rw [numnahref01_Monotone.l0,if_neg (by omega)]
  | succ d ih =>
    intro p hp
    obtain ⟨r,h1,h2⟩:=mono_l1 hT (show p < c.size by omega) hc hfn (ih (p + 1) (by omega)) n 0 (by omega)
    refine ⟨r,Ev.step (fun k=>?_) h1,Ev.step (fun k=>?_) h2⟩
    · rw [card_Monotone.l0,if_pos (by omega)];rfl
    · rw [numnahref01_Monotone.l0,if_pos (by omega)];rfl
end
end Go.Proofs.Ythpahlkhiknofaa.P
namespace Go.Proofs.Ythpahlkhiknofaa.G
open Go.RowKit Go.Proofs.YthpahlkhiknofaaW.PrintWords Go.Proofs.YthpahlkhiknofaaW.PrintLast Go.Proofs.YthpahlkhiknofaaW.PrintMore
attribute [local go_sem] max2_int min2_int max_two min_two max_three min_three max_four min_four   -- for this text's walks alone
set_option linter.unusedVariables false
set_option linter.unusedSimpArgs false
theorem eqA65 (d:Nat) (w:World) (x0 y0:Int) (x1 y1:Int) (x2 y2:Int) (x3 y3:Int) :
  (Op.equalIn (d + 2) 65 (.agg #[.int .i64 x0,.int .i64 x1,.int .i64 x2,.int .i64 x3]) (.agg #[.int .i64 y0,.int .i64 y1,.int .i64 y2,.int .i64 y3])).run Try.prog w = .ok (x0 == y0 && (x1 == y1 && (x2 == y2 && (x3 == y3)))) w:=by
 refine eqA_of Try.underlying65 (by kernel_rfl) ?_
 refine eqf_cons (by rfl) (by go_simp;rfl) (by go_simp;rfl) (by go_simp) ?_
 refine eqf_cons (by rfl) (by go_simp;rfl) (by go_simp;rfl) (by go_simp) ?_
 refine eqf_cons (by rfl) (by go_simp;rfl) (by go_simp;rfl) (by go_simp) ?_
 exact eqf_last (by rfl) (by go_simp;rfl) (by go_simp;rfl) (by go_simp)
end Go.Proofs.Ythpahlkhiknofaa.G
namespace Go.Proofs.Ythpahlkhiknofaa.G
open Go
theorem fld65_0 (x y z u:Value) (w:World):(Instr.field 65 (.agg #[x,y,z,u]) 0).run Try.prog w = .ok x w:=by kernel_rfl
theorem fld65_1 (x y z u:Value) (w:World):(Instr.field 65 (.agg #[x,y,z,u]) 1).run Try.prog w = .ok y w:=by kernel_rfl
theorem fld65_2 (x y z u:Value) (w:World):(Instr.field 65 (.agg #[x,y,z,u]) 2).run Try.prog w = .ok z w:=by kernel_rfl
theorem fld65_3 (x y z u:Value) (w:World):(Instr.field 65 (.agg #[x,y,z,u]) 3).run Try.prog w = .ok u w:=by kernel_rfl
end Go.Proofs.Ythpahlkhiknofaa.G
