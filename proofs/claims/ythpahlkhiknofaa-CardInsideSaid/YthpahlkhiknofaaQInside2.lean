/- Several texts, joined. -/
import Derived.Shelf.SlSortCmp.NoneTotal
import Derived.Test.YthpahlkhiknofaaQInside1
set_option linter.unusedVariables false
set_option linter.unusedSimpArgs false
namespace Go.Proofs.Ythpahlkhiknofaa.G
open Go.RowKit Go.Proofs.YthpahlkhiknofaaW.PrintWords Go.Proofs.YthpahlkhiknofaaW.PrintLast Go.Proofs.YthpahlkhiknofaaW.PrintMore
set_option maxHeartbeats 8000000
set_option maxRecDepth 100000
attribute [local go_sem] max2_int min2_int max_two min_two max_three min_three max_four min_four   -- for this text's walks alone
def card_function_fits.l0:Nat → Int → Int → Int → ByteArray → Int → Int → Option (Bool)
 | 0,_,_,_,_,_,_=>none
 | k + 1,x8,x9,x131000,x131001,x132000,x132001=>if x9 < x8 then ((card_cube_has.f x132000 x132001 x9).bind fun t132=>(if t132 = true then (if 0 ≤ x9 then (if x9 < (x131001.size:Int) then (if (bt x131001 x9) = 48 then (some false) else (card_function_fits.l0 k x8 (wrap64 (x9 + 1)) x131000 x131001 x132000 x132001)) else (none)) else (none)) else (card_function_fits.l0 k x8 (wrap64 (x9 + 1)) x131000 x131001 x132000 x132001))) else (some true)
def card_function_fits.f (k:Nat) (a0_0:Int) (a0_1:ByteArray) (a1_0:Int) (a1_1:Int):Option (Bool):=card_function_fits.l0 k (a0_1.size:Int) 0 a0_0 a0_1 a1_0 a1_1
theorem card_function_fits.mono_l:∀ k,(∀ y0 y1 y2 y3 y4 y5,LeO (card_function_fits.l0 k y0 y1 y2 y3 y4 y5) (card_function_fits.l0 (k + 1) y0 y1 y2 y3 y4 y5))
 | 0=>fun _ _ _ _ _ _ r h=>by simp [card_function_fits.l0] at h
 | k + 1=>by
  have ih0:=card_function_fits.mono_l k
  intro y0 y1 y2 y3 y4 y5
  unfold card_function_fits.l0
  repeat' first
  | (with_reducible exact ih0 _ _ _ _ _ _)
  | (with_reducible exact LeO.refl _)
  | (with_reducible exact LeO.none _)
  | (with_reducible refine LeO.ite ?_ ?_)
  | (with_reducible refine LeO.bind ?_ (fun _=>?_))
  | exact ih0 _ _ _ _ _ _
  | exact LeO.none _
  | refine LeO.ite ?_ ?_
  | refine LeO.bind ?_ (fun _=>?_)
theorem card_function_fits.mono:∀ a0 a1 a2 a3 k,LeO (card_function_fits.f k a0 a1 a2 a3) (card_function_fits.f (k + 1) a0 a1 a2 a3):=by
 intro a0 a1 a2 a3 k
 have ih0:=card_function_fits.mono_l k
 unfold card_function_fits.f
 repeat' first
   | (with_reducible exact ih0 _ _ _ _ _ _)
   | (with_reducible exact LeO.refl _)
   | (with_reducible exact LeO.none _)
   | (with_reducible refine LeO.ite ?_ ?_)
   | (with_reducible refine LeO.bind ?_ (fun _=>?_))
   | exact ih0 _ _ _ _ _ _
   | exact LeO.none _
   | refine LeO.ite ?_ ?_
   | refine LeO.bind ?_ (fun _=>?_)
theorem card_function_fits.calls (k:Nat) (a0_0:Int) (a0_1:ByteArray) (a1_0:Int) (a1_1:Int) (r:Bool) (w:World) (h:card_function_fits.f k a0_0 a0_1 a1_0 a1_1 = some r) :
  Calls Try.prog 124 #[.agg #[.int .i64 a0_0,.string a0_1],.agg #[.int .i64 a1_0,.int .i64 a1_1]] w fun e w'=>e = .returned (.bool r) ∧ Below w.heap.size w w':=by
 have hu81:=Try.underlying81
 have hu96:=Try.underlying96
 have HB:=Aside0.mk (Below.refl w.heap.size w)
 have H:(card_function_fits.l0 k (a0_1.size:Int) 0 a0_0 a0_1 a1_0 a1_1) = some r:=h
 clear h
 have H':=Aside0.mk H
 clear H
 go_enter Try.func124,Try.ntmps124
 go_wp2_with (first | ((with_reducible refine gate_dst (N:=2) rfl ?_);refine box_event ?hg (N:=2) ?hd (cs:=#[.int .i64 a0_0,.string a0_1]) (t:=81) ?hr ?_;(case hd=>rfl);(case hg=>rfl);(case hr=>first | (go_simp;done) | (go_simp;rfl));intro gb130 hg w3 hbox hb;have n0_:=Aside0.mk (below_step (by repeat (first | (with_reducible first | exact HB.out | apply below_alloc | apply pw_below_drewN | apply below_drew1) | exact HB.out)) hb);have n1_:=Aside0.mk (hbox);have n2_:=Aside0.mk ((by rw [hg];exact (below_size (by repeat (first | (with_reducible first | exact HB.out | apply below_alloc | apply pw_below_drewN | apply below_drew1) | exact HB.out))):w.heap.size ≤ gb130));have n3_:=Aside0.mk ((by rw [hg];exact (below_size (by repeat (first | (with_reducible first | exact HB.out | apply below_alloc | apply pw_below_drewN | apply below_drew1) | exact HB.out))):w.heap.size ≤ gb130));clear HB;have HB:=n0_;have BK130:=n1_;have GW130:=n2_;have GE130:=n3_;clear n0_ n1_ n2_ n3_;clear hb hbox hg) | ((with_reducible refine gate_dst (N:=3) rfl ?_);refine box_event ?hg (N:=3) ?hd (cs:=#[.int .i64 a1_0,.int .i64 a1_1]) (t:=96) ?hr ?_;(case hd=>rfl);(case hg=>rfl);(case hr=>first | (go_simp;done) | (go_simp;rfl));intro gb131 hg w4 hbox hb;have n0_:=Aside0.mk (blk_below (g:=gb130) (o:=.cells #[.int .i64 a0_0,.string a0_1] 81 (0,0)) (by (with_reducible repeat (first | refine blk_drewN ?_ _ | refine blk_drew ?_ | refine blk_alloc ?_ _));exact BK130.out) hb);have n1_:=Aside0.mk (below_step (by repeat (first | (with_reducible first | exact HB.out | apply below_alloc | apply pw_below_drewN | apply below_drew1 | refine below_set ?_ GE130.out) | exact HB.out)) hb);have n2_:=Aside0.mk (hbox);have n3_:=Aside0.mk ((by rw [hg];exact (below_size (by repeat (first | (with_reducible first | exact HB.out | apply below_alloc | apply pw_below_drewN | apply below_drew1 | refine below_set ?_ GE130.out) | exact HB.out))):w.heap.size ≤ gb131));have n4_:=Aside0.mk ((by rw [hg];exact (below_size (by repeat (first | (with_reducible first | exact HB.out | apply below_alloc | apply pw_below_drewN | apply below_drew1 | refine below_set ?_ GE130.out) | exact HB.out))):w.heap.size ≤ gb131));have n5_:=Aside0.mk ((by rw [hg];exact Nat.ne_of_lt (blk_lt (g:=gb130) (o:=.cells #[.int .i64 a0_0,.string a0_1] 81 (0,0)) (by (with_reducible repeat (first | refine blk_drewN ?_ _ | refine blk_drew ?_ | refine blk_alloc ?_ _));exact BK130.out)):gb130 ≠ gb131));have n6_:=Aside0.mk ((by rw [hg];exact Nat.ne_of_gt (blk_lt (g:=gb130) (o:=.cells #[.int .i64 a0_0,.string a0_1] 81 (0,0)) (by (with_reducible repeat (first | refine blk_drewN ?_ _ | refine blk_drew ?_ | refine blk_alloc ?_ _));exact BK130.out)):gb131 ≠ gb130));clear BK130;clear HB;have BK130:=n0_;have HB:=n1_;have BK131:=n2_;have GW131:=n3_;have GE131:=n4_;have NB130_131:=n5_;have NB131_130:=n6_;clear n0_ n1_ n2_ n3_ n4_ n5_ n6_;clear hb hbox hg;have hnb5:=NB130_131.out;have hnc5:=NB131_130.out;have hcz6_0:w4.cell? ⟨gb130,0,none⟩ = some (.int .i64 a0_0):=(blk_cell BK130.out 0).trans rfl;have hcz6_1:w4.cell? ⟨gb130,1,none⟩ = some (.string a0_1):=(blk_cell BK130.out 1).trans rfl;have hfz6_0:=blk_frozen BK130.out 0;have hfz6_1:=blk_frozen BK130.out 1))
 go_loopg [9] k (fun kq v9 w'=>∃ (x9_1:Int),v9 = .int .i64 x9_1 ∧ Aside0 (card_function_fits.l0 kq (a0_1.size:Int) x9_1 a0_0 a0_1 a1_0 a1_1 = some r) ∧ Aside0 (kq ≤ k) ∧ Aside0 (w'.heap[gb130]? = some (.cells #[.int .i64 a0_0,.string a0_1] 81 (0,0))) ∧ Aside0 (w'.heap[gb131]? = some (.cells #[.int .i64 a1_0,.int .i64 a1_1] 96 (0,0))) ∧ Aside0 (Below w.heap.size w w'))
 case atStart=>exact ⟨(0),(by first | rfl | (simp;done) | (simp [*];done)),H',⟨Nat.le_refl _⟩,⟨by (with_reducible repeat (first | refine blk_drewN ?_ _ | refine blk_drew ?_ | refine blk_alloc ?_ _));exact BK130.out⟩,⟨by (with_reducible repeat (first | refine blk_drewN ?_ _ | refine blk_drew ?_ | refine blk_alloc ?_ _));exact BK131.out⟩,⟨by repeat (first | (with_reducible first | exact HB.out | apply below_alloc | apply pw_below_drewN | apply below_drew1 | refine below_set ?_ GE130.out | refine below_set ?_ GE131.out) | exact HB.out)⟩⟩
 case round =>
  clear H'
  try clear c1
  try clear p2
  try clear c5
  try clear hcz6_0
  try clear hcz6_1
  try clear hfz6_0
  try clear hfz6_1
  obtain ⟨x9_1,rfl,HA,HK1,BK130,BK131,HB⟩:=hrel
  cases gk with
  | zero=>exact absurd HA.out (by simp [card_function_fits.l0])
  | succ k1 =>
   have H:=HA.out
   clear HA
   simp only [card_function_fits.l0] at H
   by_cases c7:x9_1 < (a0_1.size:Int)
   case neg =>
    rw [if_neg c7] at H
    have c7b0:decide (x9_1 < (a0_1.size:Int)) = false:=decide_eq_false c7
    clear c7
    obtain rfl:=Option.some.inj H
    go_wp2
    go_ret
    exact ⟨by first | rfl | (simp [errW_none,errW_some] <;> rfl) | (simp [*,errW_none,errW_some] <;> rfl),by repeat (first | (with_reducible first | exact HB.out | apply below_alloc | apply pw_below_drewN | apply below_drew1 | refine below_set ?_ GE130.out | refine below_set ?_ GE131.out) | exact HB.out)⟩
   rw [if_pos c7] at H
   have c7b0:decide (x9_1 < (a0_1.size:Int)) = true:=decide_eq_true c7
   clear c7
   replace H:=Option.bind_eq_some_iff.mp H
   obtain ⟨t132,A80,H⟩:=H
   replace H:(if t132 = true then (if 0 ≤ x9_1 then (if x9_1 < (a0_1.size:Int) then (if (bt a0_1 x9_1) = 48 then (some false) else (card_function_fits.l0 k1 (a0_1.size:Int) (wrap64 (x9_1 + 1)) a0_0 a0_1 a1_0 a1_1)) else (none)) else (none)) else (card_function_fits.l0 k1 (a0_1.size:Int) (wrap64 (x9_1 + 1)) a0_0 a0_1 a1_0 a1_1)) = some r:=H
   have A8:=Aside0.mk A80
   clear A80
   by_cases c9:t132 = true
   case neg =>
    replace c9:=Bool.eq_false_iff.mpr c9
    subst c9
    have H1:(card_function_fits.l0 k1 (a0_1.size:Int) (wrap64 (x9_1 + 1)) a0_0 a0_1 a1_0 a1_1) = some r:=by rw [if_neg (show ¬ (false = true) by decide)] at H;exact H
    clear H
    have H:=H1
    clear H1
    have H':=Aside0.mk H
    clear H
    have hnb22:=NB131_130.out
    have hnc22:=NB130_131.out
    have hcz23_0:wr.cell? ⟨gb131,0,none⟩ = some (.int .i64 a1_0):=(blk_cell BK131.out 0).trans rfl
    have hcz23_1:wr.cell? ⟨gb131,1,none⟩ = some (.int .i64 a1_1):=(blk_cell BK131.out 1).trans rfl
    have hfz23_0:=blk_frozen BK131.out 0
    have hfz23_1:=blk_frozen BK131.out 1
    go_wp2_with (first | ((with_reducible refine gate_callee (f:=70) rfl ?_);refine goesL_ (some 14) rfl rfl Try.func70 (by kernel_rfl) rfl #[.agg #[.int .i64 a1_0,.int .i64 a1_1],.int .i64 x9_1] rfl (by (try simp only [List.map_toArray,List.map_cons,List.map_nil]);first | done | rfl | (simp only [List.length_drop,List.length_take];rfl)) ?_;(with_reducible refine (card_cube_has.calls a1_0 a1_1 x9_1 false _ A8.out).mono ?_);rintro e w24 ⟨rfl,hb⟩;refine ⟨_,rfl,?_⟩;have n0_:=Aside0.mk (blk_below (g:=gb130) (o:=.cells #[.int .i64 a0_0,.string a0_1] 81 (0,0)) (by (with_reducible repeat (first | refine blk_drewN ?_ _ | refine blk_drew ?_ | refine blk_alloc ?_ _));exact BK130.out) hb);have n1_:=Aside0.mk (blk_below (g:=gb131) (o:=.cells #[.int .i64 a1_0,.int .i64 a1_1] 96 (0,0)) (by (with_reducible repeat (first | refine blk_drewN ?_ _ | refine blk_drew ?_ | refine blk_alloc ?_ _));exact BK131.out) hb);have n2_:=Aside0.mk (below_step (by repeat (first | (with_reducible first | exact HB.out | apply below_alloc | apply pw_below_drewN | apply below_drew1 | refine below_set ?_ GE130.out | refine below_set ?_ GE131.out) | exact HB.out)) hb);clear BK130;clear BK131;clear HB;have BK130:=n0_;have BK131:=n1_;have HB:=n2_;clear n0_ n1_ n2_;(try clear hb)))
    go_roundg k1
    case measure=>have:=HK1.out;omega
    case rel=>exact ⟨(wrap64 (x9_1 + 1)),(by first | rfl | (simp;done) | (simp [*];done)),H',⟨by have:=HK1.out;omega⟩,⟨by (with_reducible repeat (first | refine blk_drewN ?_ _ | refine blk_drew ?_ | refine blk_alloc ?_ _));exact BK130.out⟩,⟨by (with_reducible repeat (first | refine blk_drewN ?_ _ | refine blk_drew ?_ | refine blk_alloc ?_ _));exact BK131.out⟩,⟨by repeat (first | (with_reducible first | exact HB.out | apply below_alloc | apply pw_below_drewN | apply below_drew1 | refine below_set ?_ GE130.out | refine below_set ?_ GE131.out) | exact HB.out)⟩⟩
   subst c9
   have H1:(if 0 ≤ x9_1 then (if x9_1 < (a0_1.size:Int) then (if (bt a0_1 x9_1) = 48 then (some false) else (card_function_fits.l0 k1 (a0_1.size:Int) (wrap64 (x9_1 + 1)) a0_0 a0_1 a1_0 a1_1)) else (none)) else (none)) = some r:=by rw [if_pos rfl] at H;exact H
   clear H
   have H:=H1
   clear H1
   by_cases c10:0 ≤ x9_1
   case neg =>
    rw [if_neg c10] at H
    exact absurd H (by simp)
   rw [if_pos c10] at H
   have c10b0:decide (0 ≤ x9_1) = true:=decide_eq_true c10
   clear c10
   by_cases c11:x9_1 < (a0_1.size:Int)
   case neg =>
    rw [if_neg c11] at H
    exact absurd H (by simp)
   rw [if_pos c11] at H
   have c11b0:decide (x9_1 < (a0_1.size:Int)) = true:=decide_eq_true c11
   clear c11
   by_cases c13:(bt a0_1 x9_1) = 48
   ·rw [if_pos c13] at H
    have c13b0:((bt a0_1 x9_1) == 48) = true:=beq_iff_eq.mpr c13
    have c13b1:((bt a0_1 x9_1) != 48) = false:=bne_eq_false_iff_eq.mpr c13
    clear c13
    obtain rfl:=Option.some.inj H
    have hnb14:=NB131_130.out
    have hnc14:=NB130_131.out
    have hcz15_0:wr.cell? ⟨gb131,0,none⟩ = some (.int .i64 a1_0):=(blk_cell BK131.out 0).trans rfl
    have hcz15_1:wr.cell? ⟨gb131,1,none⟩ = some (.int .i64 a1_1):=(blk_cell BK131.out 1).trans rfl
    have hfz15_0:=blk_frozen BK131.out 0
    have hfz15_1:=blk_frozen BK131.out 1
    go_wp2_with (first | ((with_reducible refine gate_callee (f:=70) rfl ?_);refine goesL_ (some 14) rfl rfl Try.func70 (by kernel_rfl) rfl #[.agg #[.int .i64 a1_0,.int .i64 a1_1],.int .i64 x9_1] rfl (by (try simp only [List.map_toArray,List.map_cons,List.map_nil]);first | done | rfl | (simp only [List.length_drop,List.length_take];rfl)) ?_;(with_reducible refine (card_cube_has.calls a1_0 a1_1 x9_1 true _ A8.out).mono ?_);rintro e w16 ⟨rfl,hb⟩;refine ⟨_,rfl,?_⟩;have n0_:=Aside0.mk (blk_below (g:=gb130) (o:=.cells #[.int .i64 a0_0,.string a0_1] 81 (0,0)) (by (with_reducible repeat (first | refine blk_drewN ?_ _ | refine blk_drew ?_ | refine blk_alloc ?_ _));exact BK130.out) hb);have n1_:=Aside0.mk (blk_below (g:=gb131) (o:=.cells #[.int .i64 a1_0,.int .i64 a1_1] 96 (0,0)) (by (with_reducible repeat (first | refine blk_drewN ?_ _ | refine blk_drew ?_ | refine blk_alloc ?_ _));exact BK131.out) hb);have n2_:=Aside0.mk (below_step (by repeat (first | (with_reducible first | exact HB.out | apply below_alloc | apply pw_below_drewN | apply below_drew1 | refine below_set ?_ GE130.out | refine below_set ?_ GE131.out) | exact HB.out)) hb);clear BK130;clear BK131;clear HB;have BK130:=n0_;have BK131:=n1_;have HB:=n2_;clear n0_ n1_ n2_;(try clear hb);have hcz17_0:w16.cell? ⟨gb130,0,none⟩ = some (.int .i64 a0_0):=(blk_cell BK130.out 0).trans rfl;have hcz17_1:w16.cell? ⟨gb130,1,none⟩ = some (.string a0_1):=(blk_cell BK130.out 1).trans rfl;have hfz17_0:=blk_frozen BK130.out 0;have hfz17_1:=blk_frozen BK130.out 1;have p12:0 ≤ (x9_1:Int):=of_decide_eq_true (by first | (with_reducible assumption) | assumption);have q12:x9_1 < (a0_1.size:Int):=of_decide_eq_true (by first | (with_reducible assumption) | assumption);have hx12:=bt_at a0_1 x9_1;replace p12:=eq_true p12;replace q12:=eq_true q12))
    go_ret
    exact ⟨by first | rfl | (simp [errW_none,errW_some] <;> rfl) | (simp [*,errW_none,errW_some] <;> rfl),by repeat (first | (with_reducible first | exact HB.out | apply below_alloc | apply pw_below_drewN | apply below_drew1 | refine below_set ?_ GE130.out | refine below_set ?_ GE131.out) | exact HB.out)⟩
   rw [if_neg c13] at H
   have c13b0:((bt a0_1 x9_1) == 48) = false:=beq_eq_false_iff_ne.mpr c13
   have c13b1:((bt a0_1 x9_1) != 48) = true:=bne_iff_ne.mpr c13
   have H':=Aside0.mk H
   clear H
   have hnb18:=NB131_130.out
   have hnc18:=NB130_131.out
   have hcz19_0:wr.cell? ⟨gb131,0,none⟩ = some (.int .i64 a1_0):=(blk_cell BK131.out 0).trans rfl
   have hcz19_1:wr.cell? ⟨gb131,1,none⟩ = some (.int .i64 a1_1):=(blk_cell BK131.out 1).trans rfl
   have hfz19_0:=blk_frozen BK131.out 0
   have hfz19_1:=blk_frozen BK131.out 1
   go_wp2_with (first | ((with_reducible refine gate_callee (f:=70) rfl ?_);refine goesL_ (some 14) rfl rfl Try.func70 (by kernel_rfl) rfl #[.agg #[.int .i64 a1_0,.int .i64 a1_1],.int .i64 x9_1] rfl (by (try simp only [List.map_toArray,List.map_cons,List.map_nil]);first | done | rfl | (simp only [List.length_drop,List.length_take];rfl)) ?_;(with_reducible refine (card_cube_has.calls a1_0 a1_1 x9_1 true _ A8.out).mono ?_);rintro e w20 ⟨rfl,hb⟩;refine ⟨_,rfl,?_⟩;have n0_:=Aside0.mk (blk_below (g:=gb130) (o:=.cells #[.int .i64 a0_0,.string a0_1] 81 (0,0)) (by (with_reducible repeat (first | refine blk_drewN ?_ _ | refine blk_drew ?_ | refine blk_alloc ?_ _));exact BK130.out) hb);have n1_:=Aside0.mk (blk_below (g:=gb131) (o:=.cells #[.int .i64 a1_0,.int .i64 a1_1] 96 (0,0)) (by (with_reducible repeat (first | refine blk_drewN ?_ _ | refine blk_drew ?_ | refine blk_alloc ?_ _));exact BK131.out) hb);have n2_:=Aside0.mk (below_step (by repeat (first | (with_reducible first | exact HB.out | apply below_alloc | apply pw_below_drewN | apply below_drew1 | refine below_set ?_ GE130.out | refine below_set ?_ GE131.out) | exact HB.out)) hb);clear BK130;clear BK131;clear HB;have BK130:=n0_;have BK131:=n1_;have HB:=n2_;clear n0_ n1_ n2_;(try clear hb);have hcz21_0:w20.cell? ⟨gb130,0,none⟩ = some (.int .i64 a0_0):=(blk_cell BK130.out 0).trans rfl;have hcz21_1:w20.cell? ⟨gb130,1,none⟩ = some (.string a0_1):=(blk_cell BK130.out 1).trans rfl;have hfz21_0:=blk_frozen BK130.out 0;have hfz21_1:=blk_frozen BK130.out 1;have p12:0 ≤ (x9_1:Int):=of_decide_eq_true (by first | (with_reducible assumption) | assumption);have q12:x9_1 < (a0_1.size:Int):=of_decide_eq_true (by first | (with_reducible assumption) | assumption);have hx12:=bt_at a0_1 x9_1;replace p12:=eq_true p12;replace q12:=eq_true q12))
   go_roundg k1
   case measure=>have:=HK1.out;omega
   case rel=>exact ⟨(wrap64 (x9_1 + 1)),(by first | rfl | (simp;done) | (simp [*];done)),H',⟨by have:=HK1.out;omega⟩,⟨by (with_reducible repeat (first | refine blk_drewN ?_ _ | refine blk_drew ?_ | refine blk_alloc ?_ _));exact BK130.out⟩,⟨by (with_reducible repeat (first | refine blk_drewN ?_ _ | refine blk_drew ?_ | refine blk_alloc ?_ _));exact BK131.out⟩,⟨by repeat (first | (with_reducible first | exact HB.out | apply below_alloc | apply pw_below_drewN | apply below_drew1 | refine below_set ?_ GE130.out | refine below_set ?_ GE131.out) | exact HB.out)⟩⟩
def card_function_isImplicant.l0:Nat → Bool → Int → Int → Int → ByteArray → Int → Int → Option (Bool)
 | 0,_,_,_,_,_,_,_=>none
 | k + 1,x5,x9,x10,x134000,x134001,x135000,x135001=>if x10 < x9 then (if x5 = true then (card_function_isImplicant.l0 k true x9 (wrap64 (x10 + 1)) x134000 x134001 x135000 x135001) else ((card_cube_has.f x135000 x135001 x10).bind fun t135=>(if t135 = true then (if 0 ≤ x10 then (if x10 < (x134001.size:Int) then (card_function_isImplicant.l0 k ((bt x134001 x10) == 49) x9 (wrap64 (x10 + 1)) x134000 x134001 x135000 x135001) else (none)) else (none)) else (card_function_isImplicant.l0 k false x9 (wrap64 (x10 + 1)) x134000 x134001 x135000 x135001)))) else (if x5 = true then ((card_function_fits.f k x134000 x134001 x135000 x135001).bind fun t136=>(some t136)) else (some false))
def card_function_isImplicant.f (k:Nat) (a0_0:Int) (a0_1:ByteArray) (a1_0:Int) (a1_1:Int):Option (Bool):=card_function_isImplicant.l0 k false (a0_1.size:Int) 0 a0_0 a0_1 a1_0 a1_1
theorem card_function_isImplicant.mono_l:∀ k,(∀ y0 y1 y2 y3 y4 y5 y6,LeO (card_function_isImplicant.l0 k y0 y1 y2 y3 y4 y5 y6) (card_function_isImplicant.l0 (k + 1) y0 y1 y2 y3 y4 y5 y6))
 | 0=>fun _ _ _ _ _ _ _ r h=>by simp [card_function_isImplicant.l0] at h
 | k + 1=>by
  have ih0:=card_function_isImplicant.mono_l k
  intro y0 y1 y2 y3 y4 y5 y6
  unfold card_function_isImplicant.l0
  repeat' first
  | (with_reducible exact ih0 _ _ _ _ _ _ _)
  | (with_reducible exact card_function_fits.mono _ _ _ _ _)
  | (with_reducible exact LeO.refl _)
  | (with_reducible exact LeO.none _)
  | (with_reducible refine LeO.ite ?_ ?_)
  | (with_reducible refine LeO.bind ?_ (fun _=>?_))
  | exact ih0 _ _ _ _ _ _ _
  | exact card_function_fits.mono _ _ _ _ _
  | exact LeO.none _
  | refine LeO.ite ?_ ?_
  | refine LeO.bind ?_ (fun _=>?_)
theorem card_function_isImplicant.mono:∀ a0 a1 a2 a3 k,LeO (card_function_isImplicant.f k a0 a1 a2 a3) (card_function_isImplicant.f (k + 1) a0 a1 a2 a3):=by
 intro a0 a1 a2 a3 k
 have ih0:=card_function_isImplicant.mono_l k
 unfold card_function_isImplicant.f
 repeat' first
   | (with_reducible exact ih0 _ _ _ _ _ _ _)
   | (with_reducible exact card_function_fits.mono _ _ _ _ _)
   | (with_reducible exact LeO.refl _)
   | (with_reducible exact LeO.none _)
   | (with_reducible refine LeO.ite ?_ ?_)
   | (with_reducible refine LeO.bind ?_ (fun _=>?_))
   | exact ih0 _ _ _ _ _ _ _
   | exact card_function_fits.mono _ _ _ _ _
   | exact LeO.none _
   | refine LeO.ite ?_ ?_
   | refine LeO.bind ?_ (fun _=>?_)
theorem card_function_isImplicant.calls (k:Nat) (a0_0:Int) (a0_1:ByteArray) (a1_0:Int) (a1_1:Int) (r:Bool) (w:World) (h:card_function_isImplicant.f k a0_0 a0_1 a1_0 a1_1 = some r) :
  Calls Try.prog 119 #[.agg #[.int .i64 a0_0,.string a0_1],.agg #[.int .i64 a1_0,.int .i64 a1_1]] w fun e w'=>e = .returned (.bool r) ∧ Below w.heap.size w w':=by
 have hu81:=Try.underlying81
 have hu96:=Try.underlying96
 have HB:=Aside0.mk (Below.refl w.heap.size w)
 have H:(card_function_isImplicant.l0 k false (a0_1.size:Int) 0 a0_0 a0_1 a1_0 a1_1) = some r:=h
 clear h
 have H':=Aside0.mk H
 clear H
 go_enter Try.func119,Try.ntmps119
 go_wp2_with (first | ((with_reducible refine gate_dst (N:=2) rfl ?_);refine box_event ?hg (N:=2) ?hd (cs:=#[.int .i64 a0_0,.string a0_1]) (t:=81) ?hr ?_;(case hd=>rfl);(case hg=>rfl);(case hr=>first | (go_simp;done) | (go_simp;rfl));intro gb133 hg w3 hbox hb;have n0_:=Aside0.mk (below_step (by repeat (first | (with_reducible first | exact HB.out | apply below_alloc | apply pw_below_drewN | apply below_drew1) | exact HB.out)) hb);have n1_:=Aside0.mk (hbox);have n2_:=Aside0.mk ((by rw [hg];exact (below_size (by repeat (first | (with_reducible first | exact HB.out | apply below_alloc | apply pw_below_drewN | apply below_drew1) | exact HB.out))):w.heap.size ≤ gb133));have n3_:=Aside0.mk ((by rw [hg];exact (below_size (by repeat (first | (with_reducible first | exact HB.out | apply below_alloc | apply pw_below_drewN | apply below_drew1) | exact HB.out))):w.heap.size ≤ gb133));clear HB;have HB:=n0_;have BK133:=n1_;have GW133:=n2_;have GE133:=n3_;clear n0_ n1_ n2_ n3_;clear hb hbox hg) | ((with_reducible refine gate_dst (N:=3) rfl ?_);refine box_event ?hg (N:=3) ?hd (cs:=#[.int .i64 a1_0,.int .i64 a1_1]) (t:=96) ?hr ?_;(case hd=>rfl);(case hg=>rfl);(case hr=>first | (go_simp;done) | (go_simp;rfl));intro gb134 hg w4 hbox hb;have n0_:=Aside0.mk (blk_below (g:=gb133) (o:=.cells #[.int .i64 a0_0,.string a0_1] 81 (0,0)) (by (with_reducible repeat (first | refine blk_drewN ?_ _ | refine blk_drew ?_ | refine blk_alloc ?_ _));exact BK133.out) hb);have n1_:=Aside0.mk (below_step (by repeat (first | (with_reducible first | exact HB.out | apply below_alloc | apply pw_below_drewN | apply below_drew1 | refine below_set ?_ GE133.out) | exact HB.out)) hb);have n2_:=Aside0.mk (hbox);have n3_:=Aside0.mk ((by rw [hg];exact (below_size (by repeat (first | (with_reducible first | exact HB.out | apply below_alloc | apply pw_below_drewN | apply below_drew1 | refine below_set ?_ GE133.out) | exact HB.out))):w.heap.size ≤ gb134));have n4_:=Aside0.mk ((by rw [hg];exact (below_size (by repeat (first | (with_reducible first | exact HB.out | apply below_alloc | apply pw_below_drewN | apply below_drew1 | refine below_set ?_ GE133.out) | exact HB.out))):w.heap.size ≤ gb134));have n5_:=Aside0.mk ((by rw [hg];exact Nat.ne_of_lt (blk_lt (g:=gb133) (o:=.cells #[.int .i64 a0_0,.string a0_1] 81 (0,0)) (by (with_reducible repeat (first | refine blk_drewN ?_ _ | refine blk_drew ?_ | refine blk_alloc ?_ _));exact BK133.out)):gb133 ≠ gb134));have n6_:=Aside0.mk ((by rw [hg];exact Nat.ne_of_gt (blk_lt (g:=gb133) (o:=.cells #[.int .i64 a0_0,.string a0_1] 81 (0,0)) (by (with_reducible repeat (first | refine blk_drewN ?_ _ | refine blk_drew ?_ | refine blk_alloc ?_ _));exact BK133.out)):gb134 ≠ gb133));clear BK133;clear HB;have BK133:=n0_;have HB:=n1_;have BK134:=n2_;have GW134:=n3_;have GE134:=n4_;have NB133_134:=n5_;have NB134_133:=n6_;clear n0_ n1_ n2_ n3_ n4_ n5_ n6_;clear hb hbox hg;have hnb5:=NB133_134.out;have hnc5:=NB134_133.out;have hcz6_0:w4.cell? ⟨gb133,0,none⟩ = some (.int .i64 a0_0):=(blk_cell BK133.out 0).trans rfl;have hcz6_1:w4.cell? ⟨gb133,1,none⟩ = some (.string a0_1):=(blk_cell BK133.out 1).trans rfl;have hfz6_0:=blk_frozen BK133.out 0;have hfz6_1:=blk_frozen BK133.out 1))
 go_loopg [5,10] k (fun kq v5 v10 w'=>∃ (x5_1:Bool) (x10_1:Int),v5 = .bool x5_1 ∧ v10 = .int .i64 x10_1 ∧ Aside0 (card_function_isImplicant.l0 kq x5_1 (a0_1.size:Int) x10_1 a0_0 a0_1 a1_0 a1_1 = some r) ∧ Aside0 (kq ≤ k) ∧ Aside0 (w'.heap[gb133]? = some (.cells #[.int .i64 a0_0,.string a0_1] 81 (0,0))) ∧ Aside0 (w'.heap[gb134]? = some (.cells #[.int .i64 a1_0,.int .i64 a1_1] 96 (0,0))) ∧ Aside0 (Below w.heap.size w w'))
 case atStart=>exact ⟨(false),(0),(by first | rfl | (simp;done) | (simp [*];done)),(by first | rfl | (simp;done) | (simp [*];done)),H',⟨Nat.le_refl _⟩,⟨by (with_reducible repeat (first | refine blk_drewN ?_ _ | refine blk_drew ?_ | refine blk_alloc ?_ _));exact BK133.out⟩,⟨by (with_reducible repeat (first | refine blk_drewN ?_ _ | refine blk_drew ?_ | refine blk_alloc ?_ _));exact BK134.out⟩,⟨by repeat (first | (with_reducible first | exact HB.out | apply below_alloc | apply pw_below_drewN | apply below_drew1 | refine below_set ?_ GE133.out | refine below_set ?_ GE134.out) | exact HB.out)⟩⟩
 case round =>
  clear H'
  try clear c1
  try clear p2
  try clear c5
  try clear hcz6_0
  try clear hcz6_1
  try clear hfz6_0
  try clear hfz6_1
  obtain ⟨x5_1,x10_1,rfl,rfl,HA,HK1,BK133,BK134,HB⟩:=hrel
  cases gk with
  | zero=>exact absurd HA.out (by simp [card_function_isImplicant.l0])
  | succ k1 =>
   have H:=HA.out
   clear HA
   simp only [card_function_isImplicant.l0] at H
   by_cases c7:x10_1 < (a0_1.size:Int)
   case neg =>
    rw [if_neg c7] at H
    have c7b0:decide (x10_1 < (a0_1.size:Int)) = false:=decide_eq_false c7
    clear c7
    by_cases c21:x5_1 = true
    case neg =>
     replace c21:=Bool.eq_false_iff.mpr c21
     subst c21
     have H1:(some false) = some r:=by rw [if_neg (show ¬ (false = true) by decide)] at H;exact H
     clear H
     have H:=H1
     clear H1
     obtain rfl:=Option.some.inj H
     go_wp2
     go_ret
     exact ⟨by first | rfl | (simp [errW_none,errW_some] <;> rfl) | (simp [*,errW_none,errW_some] <;> rfl),by repeat (first | (with_reducible first | exact HB.out | apply below_alloc | apply pw_below_drewN | apply below_drew1 | refine below_set ?_ GE133.out | refine below_set ?_ GE134.out) | exact HB.out)⟩
    subst c21
    have H1:((card_function_fits.f k1 a0_0 a0_1 a1_0 a1_1).bind fun t136=>(some t136)) = some r:=by rw [if_pos rfl] at H;exact H
    clear H
    have H:=H1
    clear H1
    replace H:=Option.bind_eq_some_iff.mp H
    obtain ⟨t136,A220,H⟩:=H
    replace H:(some t136) = some r:=H
    have A22:=Aside0.mk A220
    clear A220
    obtain rfl:=Option.some.inj H
    have hnb23:=NB133_134.out
    have hnc23:=NB134_133.out
    have hcz24_0:wr.cell? ⟨gb133,0,none⟩ = some (.int .i64 a0_0):=(blk_cell BK133.out 0).trans rfl
    have hcz24_1:wr.cell? ⟨gb133,1,none⟩ = some (.string a0_1):=(blk_cell BK133.out 1).trans rfl
    have hfz24_0:=blk_frozen BK133.out 0
    have hfz24_1:=blk_frozen BK133.out 1
    have hcz25_0:wr.cell? ⟨gb134,0,none⟩ = some (.int .i64 a1_0):=(blk_cell BK134.out 0).trans rfl
    have hcz25_1:wr.cell? ⟨gb134,1,none⟩ = some (.int .i64 a1_1):=(blk_cell BK134.out 1).trans rfl
    have hfz25_0:=blk_frozen BK134.out 0
    have hfz25_1:=blk_frozen BK134.out 1
    go_wp2_with (first | (go_at_call 124;(with_reducible refine (card_function_fits.calls k1 a0_0 a0_1 a1_0 a1_1 t136 _ A22.out).mono ?_);rintro e w26 ⟨rfl,hb⟩;have n0_:=Aside0.mk (blk_below (g:=gb133) (o:=.cells #[.int .i64 a0_0,.string a0_1] 81 (0,0)) (by (with_reducible repeat (first | refine blk_drewN ?_ _ | refine blk_drew ?_ | refine blk_alloc ?_ _));exact BK133.out) hb);have n1_:=Aside0.mk (blk_below (g:=gb134) (o:=.cells #[.int .i64 a1_0,.int .i64 a1_1] 96 (0,0)) (by (with_reducible repeat (first | refine blk_drewN ?_ _ | refine blk_drew ?_ | refine blk_alloc ?_ _));exact BK134.out) hb);have n2_:=Aside0.mk (below_step (by repeat (first | (with_reducible first | exact HB.out | apply below_alloc | apply pw_below_drewN | apply below_drew1 | refine below_set ?_ GE133.out | refine below_set ?_ GE134.out) | exact HB.out)) hb);clear BK133;clear BK134;clear HB;have BK133:=n0_;have BK134:=n1_;have HB:=n2_;clear n0_ n1_ n2_;(try clear hb)))
    go_ret
    exact ⟨by first | rfl | (simp [errW_none,errW_some] <;> rfl) | (simp [*,errW_none,errW_some] <;> rfl),by repeat (first | (with_reducible first | exact HB.out | apply below_alloc | apply pw_below_drewN | apply below_drew1 | refine below_set ?_ GE133.out | refine below_set ?_ GE134.out) | exact HB.out)⟩
   rw [if_pos c7] at H
   have c7b0:decide (x10_1 < (a0_1.size:Int)) = true:=decide_eq_true c7
   clear c7
   by_cases c8:x5_1 = true
   ·subst c8
    have H1:(card_function_isImplicant.l0 k1 true (a0_1.size:Int) (wrap64 (x10_1 + 1)) a0_0 a0_1 a1_0 a1_1) = some r:=by rw [if_pos rfl] at H;exact H
    clear H
    have H:=H1
    clear H1
    have H':=Aside0.mk H
    clear H
    go_wp2
    go_roundg k1
    case measure=>have:=HK1.out;omega
    case rel=>exact ⟨(true),(wrap64 (x10_1 + 1)),(by first | rfl | (simp;done) | (simp [*];done)),(by first | rfl | (simp;done) | (simp [*];done)),H',⟨by have:=HK1.out;omega⟩,⟨by (with_reducible repeat (first | refine blk_drewN ?_ _ | refine blk_drew ?_ | refine blk_alloc ?_ _));exact BK133.out⟩,⟨by (with_reducible repeat (first | refine blk_drewN ?_ _ | refine blk_drew ?_ | refine blk_alloc ?_ _));exact BK134.out⟩,⟨by repeat (first | (with_reducible first | exact HB.out | apply below_alloc | apply pw_below_drewN | apply below_drew1 | refine below_set ?_ GE133.out | refine below_set ?_ GE134.out) | exact HB.out)⟩⟩
   replace c8:=Bool.eq_false_iff.mpr c8
   subst c8
   have H1:((card_cube_has.f a1_0 a1_1 x10_1).bind fun t135=>(if t135 = true then (if 0 ≤ x10_1 then (if x10_1 < (a0_1.size:Int) then (card_function_isImplicant.l0 k1 ((bt a0_1 x10_1) == 49) (a0_1.size:Int) (wrap64 (x10_1 + 1)) a0_0 a0_1 a1_0 a1_1) else (none)) else (none)) else (card_function_isImplicant.l0 k1 false (a0_1.size:Int) (wrap64 (x10_1 + 1)) a0_0 a0_1 a1_0 a1_1))) = some r:=by rw [if_neg (show ¬ (false = true) by decide)] at H;exact H
   clear H
   have H:=H1
   clear H1
   replace H:=Option.bind_eq_some_iff.mp H
   obtain ⟨t135,A90,H⟩:=H
   replace H:(if t135 = true then (if 0 ≤ x10_1 then (if x10_1 < (a0_1.size:Int) then (card_function_isImplicant.l0 k1 ((bt a0_1 x10_1) == 49) (a0_1.size:Int) (wrap64 (x10_1 + 1)) a0_0 a0_1 a1_0 a1_1) else (none)) else (none)) else (card_function_isImplicant.l0 k1 false (a0_1.size:Int) (wrap64 (x10_1 + 1)) a0_0 a0_1 a1_0 a1_1)) = some r:=H
   have A9:=Aside0.mk A90
   clear A90
   by_cases c10:t135 = true
   case neg =>
    replace c10:=Bool.eq_false_iff.mpr c10
    subst c10
    have H1:(card_function_isImplicant.l0 k1 false (a0_1.size:Int) (wrap64 (x10_1 + 1)) a0_0 a0_1 a1_0 a1_1) = some r:=by rw [if_neg (show ¬ (false = true) by decide)] at H;exact H
    clear H
    have H:=H1
    clear H1
    have H':=Aside0.mk H
    clear H
    have hnb18:=NB134_133.out
    have hnc18:=NB133_134.out
    have hcz19_0:wr.cell? ⟨gb134,0,none⟩ = some (.int .i64 a1_0):=(blk_cell BK134.out 0).trans rfl
    have hcz19_1:wr.cell? ⟨gb134,1,none⟩ = some (.int .i64 a1_1):=(blk_cell BK134.out 1).trans rfl
    have hfz19_0:=blk_frozen BK134.out 0
    have hfz19_1:=blk_frozen BK134.out 1
    go_wp2_with (first | (go_at_call 70;(with_reducible refine (card_cube_has.calls a1_0 a1_1 x10_1 false _ A9.out).mono ?_);rintro e w20 ⟨rfl,hb⟩;have n0_:=Aside0.mk (blk_below (g:=gb133) (o:=.cells #[.int .i64 a0_0,.string a0_1] 81 (0,0)) (by (with_reducible repeat (first | refine blk_drewN ?_ _ | refine blk_drew ?_ | refine blk_alloc ?_ _));exact BK133.out) hb);have n1_:=Aside0.mk (blk_below (g:=gb134) (o:=.cells #[.int .i64 a1_0,.int .i64 a1_1] 96 (0,0)) (by (with_reducible repeat (first | refine blk_drewN ?_ _ | refine blk_drew ?_ | refine blk_alloc ?_ _));exact BK134.out) hb);have n2_:=Aside0.mk (below_step (by repeat (first | (with_reducible first | exact HB.out | apply below_alloc | apply pw_below_drewN | apply below_drew1 | refine below_set ?_ GE133.out | refine below_set ?_ GE134.out) | exact HB.out)) hb);clear BK133;clear BK134;clear HB;have BK133:=n0_;have BK134:=n1_;have HB:=n2_;clear n0_ n1_ n2_;(try clear hb)))
    go_roundg k1
    case measure=>have:=HK1.out;omega
    case rel=>exact ⟨(false),(wrap64 (x10_1 + 1)),(by first | rfl | (simp;done) | (simp [*];done)),(by first | rfl | (simp;done) | (simp [*];done)),H',⟨by have:=HK1.out;omega⟩,⟨by (with_reducible repeat (first | refine blk_drewN ?_ _ | refine blk_drew ?_ | refine blk_alloc ?_ _));exact BK133.out⟩,⟨by (with_reducible repeat (first | refine blk_drewN ?_ _ | refine blk_drew ?_ | refine blk_alloc ?_ _));exact BK134.out⟩,⟨by repeat (first | (with_reducible first | exact HB.out | apply below_alloc | apply pw_below_drewN | apply below_drew1 | refine below_set ?_ GE133.out | refine below_set ?_ GE134.out) | exact HB.out)⟩⟩
   subst c10
   have H1:(if 0 ≤ x10_1 then (if x10_1 < (a0_1.size:Int) then (card_function_isImplicant.l0 k1 ((bt a0_1 x10_1) == 49) (a0_1.size:Int) (wrap64 (x10_1 + 1)) a0_0 a0_1 a1_0 a1_1) else (none)) else (none)) = some r:=by rw [if_pos rfl] at H;exact H
   clear H
   have H:=H1
   clear H1
   by_cases c11:0 ≤ x10_1
   case neg =>
    rw [if_neg c11] at H
    exact absurd H (by simp)
   rw [if_pos c11] at H
   have c11b0:decide (0 ≤ x10_1) = true:=decide_eq_true c11
   clear c11
   by_cases c12:x10_1 < (a0_1.size:Int)
   case neg =>
    rw [if_neg c12] at H
    exact absurd H (by simp)
   rw [if_pos c12] at H
   have c12b0:decide (x10_1 < (a0_1.size:Int)) = true:=decide_eq_true c12
   clear c12
   have H':=Aside0.mk H
   clear H
   have hnb14:=NB134_133.out
   have hnc14:=NB133_134.out
   have hcz15_0:wr.cell? ⟨gb134,0,none⟩ = some (.int .i64 a1_0):=(blk_cell BK134.out 0).trans rfl
   have hcz15_1:wr.cell? ⟨gb134,1,none⟩ = some (.int .i64 a1_1):=(blk_cell BK134.out 1).trans rfl
   have hfz15_0:=blk_frozen BK134.out 0
   have hfz15_1:=blk_frozen BK134.out 1
   go_wp2_with (first | (go_at_call 70;(with_reducible refine (card_cube_has.calls a1_0 a1_1 x10_1 true _ A9.out).mono ?_);rintro e w16 ⟨rfl,hb⟩;have n0_:=Aside0.mk (blk_below (g:=gb133) (o:=.cells #[.int .i64 a0_0,.string a0_1] 81 (0,0)) (by (with_reducible repeat (first | refine blk_drewN ?_ _ | refine blk_drew ?_ | refine blk_alloc ?_ _));exact BK133.out) hb);have n1_:=Aside0.mk (blk_below (g:=gb134) (o:=.cells #[.int .i64 a1_0,.int .i64 a1_1] 96 (0,0)) (by (with_reducible repeat (first | refine blk_drewN ?_ _ | refine blk_drew ?_ | refine blk_alloc ?_ _));exact BK134.out) hb);have n2_:=Aside0.mk (below_step (by repeat (first | (with_reducible first | exact HB.out | apply below_alloc | apply pw_below_drewN | apply below_drew1 | refine below_set ?_ GE133.out | refine below_set ?_ GE134.out) | exact HB.out)) hb);clear BK133;clear BK134;clear HB;have BK133:=n0_;have BK134:=n1_;have HB:=n2_;clear n0_ n1_ n2_;(try clear hb);have hcz17_0:w16.cell? ⟨gb133,0,none⟩ = some (.int .i64 a0_0):=(blk_cell BK133.out 0).trans rfl;have hcz17_1:w16.cell? ⟨gb133,1,none⟩ = some (.string a0_1):=(blk_cell BK133.out 1).trans rfl;have hfz17_0:=blk_frozen BK133.out 0;have hfz17_1:=blk_frozen BK133.out 1;have p13:0 ≤ (x10_1:Int):=of_decide_eq_true (by first | (with_reducible assumption) | assumption);have q13:x10_1 < (a0_1.size:Int):=of_decide_eq_true (by first | (with_reducible assumption) | assumption);have hx13:=bt_at a0_1 x10_1;replace p13:=eq_true p13;replace q13:=eq_true q13))
   go_roundg k1
   case measure=>have:=HK1.out;omega
   case rel=>exact ⟨(((bt a0_1 x10_1) == 49)),(wrap64 (x10_1 + 1)),(by first | rfl | (simp;done) | (simp [*];done)),(by first | rfl | (simp;done) | (simp [*];done)),H',⟨by have:=HK1.out;omega⟩,⟨by (with_reducible repeat (first | refine blk_drewN ?_ _ | refine blk_drew ?_ | refine blk_alloc ?_ _));exact BK133.out⟩,⟨by (with_reducible repeat (first | refine blk_drewN ?_ _ | refine blk_drew ?_ | refine blk_alloc ?_ _));exact BK134.out⟩,⟨by repeat (first | (with_reducible first | exact HB.out | apply below_alloc | apply pw_below_drewN | apply below_drew1 | refine below_set ?_ GE133.out | refine below_set ?_ GE134.out) | exact HB.out)⟩⟩
def card_function_isPrime.l0:Nat → Int → Int → Int → ByteArray → Int → Int → Option (Bool)
 | 0,_,_,_,_,_,_=>none
 | k + 1,x8,x9,x138000,x138001,x139000,x139001=>if x9 < x8 then (if 0 ≤ x9 then (if (Go.bits .and .i64 x139000 (shl .i64 1 x9)) > 0 then ((card_function_isImplicant.f k x138000 x138001 (Go.bits .andNot .i64 x139000 (shl .i64 1 x9)) (Go.bits .andNot .i64 x139001 (shl .i64 1 x9))).bind fun t139=>(if t139 = true then (some false) else (card_function_isPrime.l0 k x8 (wrap64 (x9 + 1)) x138000 x138001 x139000 x139001))) else (card_function_isPrime.l0 k x8 (wrap64 (x9 + 1)) x138000 x138001 x139000 x139001)) else (none)) else ((card_function_isImplicant.f k x138000 x138001 x139000 x139001).bind fun t140=>(some t140))
def card_function_isPrime.f (k:Nat) (a0_0:Int) (a0_1:ByteArray) (a1_0:Int) (a1_1:Int):Option (Bool):=card_function_isPrime.l0 k a0_0 0 a0_0 a0_1 a1_0 a1_1
theorem card_function_isPrime.mono_l:∀ k,(∀ y0 y1 y2 y3 y4 y5,LeO (card_function_isPrime.l0 k y0 y1 y2 y3 y4 y5) (card_function_isPrime.l0 (k + 1) y0 y1 y2 y3 y4 y5))
 | 0=>fun _ _ _ _ _ _ r h=>by simp [card_function_isPrime.l0] at h
 | k + 1=>by
  have ih0:=card_function_isPrime.mono_l k
  intro y0 y1 y2 y3 y4 y5
  unfold card_function_isPrime.l0
  repeat' first
  | (with_reducible exact ih0 _ _ _ _ _ _)
  | (with_reducible exact card_function_isImplicant.mono _ _ _ _ _)
  | (with_reducible exact LeO.refl _)
  | (with_reducible exact LeO.none _)
  | (with_reducible refine LeO.ite ?_ ?_)
  | (with_reducible refine LeO.bind ?_ (fun _=>?_))
  | exact ih0 _ _ _ _ _ _
  | exact card_function_isImplicant.mono _ _ _ _ _
  | exact LeO.none _
  | refine LeO.ite ?_ ?_
  | refine LeO.bind ?_ (fun _=>?_)
theorem card_function_isPrime.mono:∀ a0 a1 a2 a3 k,LeO (card_function_isPrime.f k a0 a1 a2 a3) (card_function_isPrime.f (k + 1) a0 a1 a2 a3):=by
 intro a0 a1 a2 a3 k
 have ih0:=card_function_isPrime.mono_l k
 unfold card_function_isPrime.f
 repeat' first
   | (with_reducible exact ih0 _ _ _ _ _ _)
   | (with_reducible exact card_function_isImplicant.mono _ _ _ _ _)
   | (with_reducible exact LeO.refl _)
   | (with_reducible exact LeO.none _)
   | (with_reducible refine LeO.ite ?_ ?_)
   | (with_reducible refine LeO.bind ?_ (fun _=>?_))
   | exact ih0 _ _ _ _ _ _
   | exact card_function_isImplicant.mono _ _ _ _ _
   | exact LeO.none _
   | refine LeO.ite ?_ ?_
   | refine LeO.bind ?_ (fun _=>?_)
theorem card_function_isPrime.calls (k:Nat) (a0_0:Int) (a0_1:ByteArray) (a1_0:Int) (a1_1:Int) (r:Bool) (w:World) (h:card_function_isPrime.f k a0_0 a0_1 a1_0 a1_1 = some r) :
  Calls Try.prog 98 #[.agg #[.int .i64 a0_0,.string a0_1],.agg #[.int .i64 a1_0,.int .i64 a1_1]] w fun e w'=>e = .returned (.bool r) ∧ Below w.heap.size w w':=by
 have hu81:=Try.underlying81
 have hu96:=Try.underlying96
 have HB:=Aside0.mk (Below.refl w.heap.size w)
 have H:(card_function_isPrime.l0 k a0_0 0 a0_0 a0_1 a1_0 a1_1) = some r:=h
 clear h
 have H':=Aside0.mk H
 clear H
 go_enter Try.func98,Try.ntmps98
 go_wp2_with (first | ((with_reducible refine gate_dst (N:=2) rfl ?_);refine box_event ?hg (N:=2) ?hd (cs:=#[.int .i64 a0_0,.string a0_1]) (t:=81) ?hr ?_;(case hd=>rfl);(case hg=>rfl);(case hr=>first | (go_simp;done) | (go_simp;rfl));intro gb137 hg w3 hbox hb;have n0_:=Aside0.mk (below_step (by repeat (first | (with_reducible first | exact HB.out | apply below_alloc | apply pw_below_drewN | apply below_drew1) | exact HB.out)) hb);have n1_:=Aside0.mk (hbox);have n2_:=Aside0.mk ((by rw [hg];exact (below_size (by repeat (first | (with_reducible first | exact HB.out | apply below_alloc | apply pw_below_drewN | apply below_drew1) | exact HB.out))):w.heap.size ≤ gb137));have n3_:=Aside0.mk ((by rw [hg];exact (below_size (by repeat (first | (with_reducible first | exact HB.out | apply below_alloc | apply pw_below_drewN | apply below_drew1) | exact HB.out))):w.heap.size ≤ gb137));clear HB;have HB:=n0_;have BK137:=n1_;have GW137:=n2_;have GE137:=n3_;clear n0_ n1_ n2_ n3_;clear hb hbox hg) | ((with_reducible refine gate_dst (N:=3) rfl ?_);refine box_event ?hg (N:=3) ?hd (cs:=#[.int .i64 a1_0,.int .i64 a1_1]) (t:=96) ?hr ?_;(case hd=>rfl);(case hg=>rfl);(case hr=>first | (go_simp;done) | (go_simp;rfl));intro gb138 hg w4 hbox hb;have n0_:=Aside0.mk (blk_below (g:=gb137) (o:=.cells #[.int .i64 a0_0,.string a0_1] 81 (0,0)) (by (with_reducible repeat (first | refine blk_drewN ?_ _ | refine blk_drew ?_ | refine blk_alloc ?_ _));exact BK137.out) hb);have n1_:=Aside0.mk (below_step (by repeat (first | (with_reducible first | exact HB.out | apply below_alloc | apply pw_below_drewN | apply below_drew1 | refine below_set ?_ GE137.out) | exact HB.out)) hb);have n2_:=Aside0.mk (hbox);have n3_:=Aside0.mk ((by rw [hg];exact (below_size (by repeat (first | (with_reducible first | exact HB.out | apply below_alloc | apply pw_below_drewN | apply below_drew1 | refine below_set ?_ GE137.out) | exact HB.out))):w.heap.size ≤ gb138));have n4_:=Aside0.mk ((by rw [hg];exact (below_size (by repeat (first | (with_reducible first | exact HB.out | apply below_alloc | apply pw_below_drewN | apply below_drew1 | refine below_set ?_ GE137.out) | exact HB.out))):w.heap.size ≤ gb138));have n5_:=Aside0.mk ((by rw [hg];exact Nat.ne_of_lt (blk_lt (g:=gb137) (o:=.cells #[.int .i64 a0_0,.string a0_1] 81 (0,0)) (by (with_reducible repeat (first | refine blk_drewN ?_ _ | refine blk_drew ?_ | refine blk_alloc ?_ _));exact BK137.out)):gb137 ≠ gb138));have n6_:=Aside0.mk ((by rw [hg];exact Nat.ne_of_gt (blk_lt (g:=gb137) (o:=.cells #[.int .i64 a0_0,.string a0_1] 81 (0,0)) (by (with_reducible repeat (first | refine blk_drewN ?_ _ | refine blk_drew ?_ | refine blk_alloc ?_ _));exact BK137.out)):gb138 ≠ gb137));clear BK137;clear HB;have BK137:=n0_;have HB:=n1_;have BK138:=n2_;have GW138:=n3_;have GE138:=n4_;have NB137_138:=n5_;have NB138_137:=n6_;clear n0_ n1_ n2_ n3_ n4_ n5_ n6_;clear hb hbox hg;have hnb5:=NB137_138.out;have hnc5:=NB138_137.out;have hcz6_0:w4.cell? ⟨gb137,0,none⟩ = some (.int .i64 a0_0):=(blk_cell BK137.out 0).trans rfl;have hcz6_1:w4.cell? ⟨gb137,1,none⟩ = some (.string a0_1):=(blk_cell BK137.out 1).trans rfl;have hfz6_0:=blk_frozen BK137.out 0;have hfz6_1:=blk_frozen BK137.out 1))
 go_loopg [9] k (fun kq v9 w'=>∃ (x9_1:Int),v9 = .int .i64 x9_1 ∧ Aside0 (card_function_isPrime.l0 kq a0_0 x9_1 a0_0 a0_1 a1_0 a1_1 = some r) ∧ Aside0 (kq ≤ k) ∧ Aside0 (w'.heap[gb137]? = some (.cells #[.int .i64 a0_0,.string a0_1] 81 (0,0))) ∧ Aside0 (w'.heap[gb138]? = some (.cells #[.int .i64 a1_0,.int .i64 a1_1] 96 (0,0))) ∧ Aside0 (Below w.heap.size w w'))
 case atStart=>exact ⟨(0),(by first | rfl | (simp;done) | (simp [*];done)),H',⟨Nat.le_refl _⟩,⟨by (with_reducible repeat (first | refine blk_drewN ?_ _ | refine blk_drew ?_ | refine blk_alloc ?_ _));exact BK137.out⟩,⟨by (with_reducible repeat (first | refine blk_drewN ?_ _ | refine blk_drew ?_ | refine blk_alloc ?_ _));exact BK138.out⟩,⟨by repeat (first | (with_reducible first | exact HB.out | apply below_alloc | apply pw_below_drewN | apply below_drew1 | refine below_set ?_ GE137.out | refine below_set ?_ GE138.out) | exact HB.out)⟩⟩
 case round =>
  clear H'
  try clear p2
  try clear c5
  try clear hcz6_0
  try clear hcz6_1
  try clear hfz6_0
  try clear hfz6_1
  obtain ⟨x9_1,rfl,HA,HK1,BK137,BK138,HB⟩:=hrel
  cases gk with
  | zero=>exact absurd HA.out (by simp [card_function_isPrime.l0])
  | succ k1 =>
   have H:=HA.out
   clear HA
   simp only [card_function_isPrime.l0] at H
   by_cases c7:x9_1 < a0_0
   case neg =>
    rw [if_neg c7] at H
    have c7b0:decide (x9_1 < a0_0) = false:=decide_eq_false c7
    clear c7
    replace H:=Option.bind_eq_some_iff.mp H
    obtain ⟨t140,A230,H⟩:=H
    replace H:(some t140) = some r:=H
    have A23:=Aside0.mk A230
    clear A230
    obtain rfl:=Option.some.inj H
    have hnb24:=NB137_138.out
    have hnc24:=NB138_137.out
    have hcz25_0:wr.cell? ⟨gb137,0,none⟩ = some (.int .i64 a0_0):=(blk_cell BK137.out 0).trans rfl
    have hcz25_1:wr.cell? ⟨gb137,1,none⟩ = some (.string a0_1):=(blk_cell BK137.out 1).trans rfl
    have hfz25_0:=blk_frozen BK137.out 0
    have hfz25_1:=blk_frozen BK137.out 1
    have hcz26_0:wr.cell? ⟨gb138,0,none⟩ = some (.int .i64 a1_0):=(blk_cell BK138.out 0).trans rfl
    have hcz26_1:wr.cell? ⟨gb138,1,none⟩ = some (.int .i64 a1_1):=(blk_cell BK138.out 1).trans rfl
    have hfz26_0:=blk_frozen BK138.out 0
    have hfz26_1:=blk_frozen BK138.out 1
    go_wp2_with (first | ((with_reducible refine gate_callee (f:=119) rfl ?_);refine goesL_ (some 35) rfl rfl Try.func119 (by kernel_rfl) rfl #[.agg #[.int .i64 a0_0,.string a0_1],.agg #[.int .i64 a1_0,.int .i64 a1_1]] rfl (by (try simp only [List.map_toArray,List.map_cons,List.map_nil]);first | done | rfl | (simp only [List.length_drop,List.length_take];rfl)) ?_;(with_reducible refine (card_function_isImplicant.calls k1 a0_0 a0_1 a1_0 a1_1 t140 _ A23.out).mono ?_);rintro e w27 ⟨rfl,hb⟩;refine ⟨_,rfl,?_⟩;have n0_:=Aside0.mk (blk_below (g:=gb137) (o:=.cells #[.int .i64 a0_0,.string a0_1] 81 (0,0)) (by (with_reducible repeat (first | refine blk_drewN ?_ _ | refine blk_drew ?_ | refine blk_alloc ?_ _));exact BK137.out) hb);have n1_:=Aside0.mk (blk_below (g:=gb138) (o:=.cells #[.int .i64 a1_0,.int .i64 a1_1] 96 (0,0)) (by (with_reducible repeat (first | refine blk_drewN ?_ _ | refine blk_drew ?_ | refine blk_alloc ?_ _));exact BK138.out) hb);have n2_:=Aside0.mk (below_step (by repeat (first | (with_reducible first | exact HB.out | apply below_alloc | apply pw_below_drewN | apply below_drew1 | refine below_set ?_ GE137.out | refine below_set ?_ GE138.out) | exact HB.out)) hb);clear BK137;clear BK138;clear HB;have BK137:=n0_;have BK138:=n1_;have HB:=n2_;clear n0_ n1_ n2_;(try clear hb)))
    go_ret
    exact ⟨by first | rfl | (simp [errW_none,errW_some] <;> rfl) | (simp [*,errW_none,errW_some] <;> rfl),by repeat (first | (with_reducible first | exact HB.out | apply below_alloc | apply pw_below_drewN | apply below_drew1 | refine below_set ?_ GE137.out | refine below_set ?_ GE138.out) | exact HB.out)⟩
   rw [if_pos c7] at H
   have c7b0:decide (x9_1 < a0_0) = true:=decide_eq_true c7
   clear c7
   by_cases c8:0 ≤ x9_1
   case neg =>
    rw [if_neg c8] at H
    exact absurd H (by simp)
   rw [if_pos c8] at H
   have c8b0:=eq_true c8
   have c8b1:decide (0 ≤ x9_1) = true:=decide_eq_true c8
   clear c8
   obtain ⟨ji9,hji9⟩:∃ j_:Int,(shl .i64 1 x9_1) = j_:=⟨_,rfl⟩
   replace H:(if (Go.bits .and .i64 a1_0 (ji9)) > 0 then ((card_function_isImplicant.f k1 a0_0 a0_1 (Go.bits .andNot .i64 a1_0 (ji9)) (Go.bits .andNot .i64 a1_1 (ji9))).bind fun t139=>(if t139 = true then (some false) else (card_function_isPrime.l0 k1 a0_0 (wrap64 (x9_1 + 1)) a0_0 a0_1 a1_0 a1_1))) else (card_function_isPrime.l0 k1 a0_0 (wrap64 (x9_1 + 1)) a0_0 a0_1 a1_0 a1_1)) = some r:=by first | (rw [hji9] at H;exact H) | (simp only [hji9] at H ⊢;exact H)
   have hji9_:(IntKind.i64.wrap (1 * 2 ^ min x9_1.toNat 64)) = ji9:=hji9
   have hji9z:x9_1 ≤ 64 → (IntKind.i64.wrap (1 * 2 ^ x9_1.toNat)) = ji9:=shl_small hji9
   have hji9u:(IntKind.i64.wrap (2 ^ min x9_1.toNat 64)) = ji9:=by have h_:=hji9_;rw [Int.one_mul] at h_;exact h_
   have hji9v:x9_1 ≤ 64 → (IntKind.i64.wrap (2 ^ x9_1.toNat)) = ji9:=fun hle_=>by have h_:=hji9z hle_;rw [Int.one_mul] at h_;exact h_
   have hji9y:(wrap64 (1 * 2 ^ min x9_1.toNat 64)) = ji9:=(i64_w _).symm.trans hji9_
   have hji9x:x9_1 ≤ 64 → (wrap64 (1 * 2 ^ x9_1.toNat)) = ji9:=fun h_=>(i64_w _).symm.trans (hji9z h_)
   by_cases c10:(Go.bits .and .i64 a1_0 (ji9)) > 0
   case neg =>
    rw [if_neg c10] at H
    have c10b0:decide (0 < (Go.bits .and .i64 a1_0 (ji9))) = false:=decide_eq_false c10
    clear c10
    have H':=Aside0.mk H
    clear H
    have hnb21:=NB138_137.out
    have hnc21:=NB137_138.out
    have hcz22_0:wr.cell? ⟨gb138,0,none⟩ = some (.int .i64 a1_0):=(blk_cell BK138.out 0).trans rfl
    have hcz22_1:wr.cell? ⟨gb138,1,none⟩ = some (.int .i64 a1_1):=(blk_cell BK138.out 1).trans rfl
    have hfz22_0:=blk_frozen BK138.out 0
    have hfz22_1:=blk_frozen BK138.out 1
    go_wp2
    go_roundg k1
    case measure=>have:=HK1.out;omega
    case rel=>exact ⟨(wrap64 (x9_1 + 1)),(by first | rfl | (simp;done) | (simp [*];done)),H',⟨by have:=HK1.out;omega⟩,⟨by (with_reducible repeat (first | refine blk_drewN ?_ _ | refine blk_drew ?_ | refine blk_alloc ?_ _));exact BK137.out⟩,⟨by (with_reducible repeat (first | refine blk_drewN ?_ _ | refine blk_drew ?_ | refine blk_alloc ?_ _));exact BK138.out⟩,⟨by repeat (first | (with_reducible first | exact HB.out | apply below_alloc | apply pw_below_drewN | apply below_drew1 | refine below_set ?_ GE137.out | refine below_set ?_ GE138.out) | exact HB.out)⟩⟩
   rw [if_pos c10] at H
   have c10b0:decide (0 < (Go.bits .and .i64 a1_0 (ji9))) = true:=decide_eq_true c10
   clear c10
   replace H:=Option.bind_eq_some_iff.mp H
   obtain ⟨t139,A110,H⟩:=H
   replace H:(if t139 = true then (some false) else (card_function_isPrime.l0 k1 a0_0 (wrap64 (x9_1 + 1)) a0_0 a0_1 a1_0 a1_1)) = some r:=H
   have A11:=Aside0.mk A110
   clear A110
   by_cases c12:t139 = true
   ·subst c12
    have H1:(some false) = some r:=by rw [if_pos rfl] at H;exact H
    clear H
    have H:=H1
    clear H1
    obtain rfl:=Option.some.inj H
    have hnb13:=NB138_137.out
    have hnc13:=NB137_138.out
    have hcz14_0:wr.cell? ⟨gb138,0,none⟩ = some (.int .i64 a1_0):=(blk_cell BK138.out 0).trans rfl
    have hcz14_1:wr.cell? ⟨gb138,1,none⟩ = some (.int .i64 a1_1):=(blk_cell BK138.out 1).trans rfl
    have hfz14_0:=blk_frozen BK138.out 0
    have hfz14_1:=blk_frozen BK138.out 1
    have hcz15_0:wr.cell? ⟨gb137,0,none⟩ = some (.int .i64 a0_0):=(blk_cell BK137.out 0).trans rfl
    have hcz15_1:wr.cell? ⟨gb137,1,none⟩ = some (.string a0_1):=(blk_cell BK137.out 1).trans rfl
    have hfz15_0:=blk_frozen BK137.out 0
    have hfz15_1:=blk_frozen BK137.out 1
    go_wp2_with (first | (go_at_call 119;(with_reducible refine (card_function_isImplicant.calls k1 a0_0 a0_1 (Go.bits .andNot .i64 a1_0 (ji9)) (Go.bits .andNot .i64 a1_1 (ji9)) true _ A11.out).mono ?_);rintro e w16 ⟨rfl,hb⟩;have n0_:=Aside0.mk (blk_below (g:=gb137) (o:=.cells #[.int .i64 a0_0,.string a0_1] 81 (0,0)) (by (with_reducible repeat (first | refine blk_drewN ?_ _ | refine blk_drew ?_ | refine blk_alloc ?_ _));exact BK137.out) hb);have n1_:=Aside0.mk (blk_below (g:=gb138) (o:=.cells #[.int .i64 a1_0,.int .i64 a1_1] 96 (0,0)) (by (with_reducible repeat (first | refine blk_drewN ?_ _ | refine blk_drew ?_ | refine blk_alloc ?_ _));exact BK138.out) hb);have n2_:=Aside0.mk (below_step (by repeat (first | (with_reducible first | exact HB.out | apply below_alloc | apply pw_below_drewN | apply below_drew1 | refine below_set ?_ GE137.out | refine below_set ?_ GE138.out) | exact HB.out)) hb);clear BK137;clear BK138;clear HB;have BK137:=n0_;have BK138:=n1_;have HB:=n2_;clear n0_ n1_ n2_;(try clear hb)))
    go_ret
    exact ⟨by first | rfl | (simp [errW_none,errW_some] <;> rfl) | (simp only [← hji9];first | rfl | (simp [errW_none,errW_some] <;> rfl)) | (simp [*,errW_none,errW_some] <;> rfl),by repeat (first | (with_reducible first | exact HB.out | apply below_alloc | apply pw_below_drewN | apply below_drew1 | refine below_set ?_ GE137.out | refine below_set ?_ GE138.out) | exact HB.out)⟩
   replace c12:=Bool.eq_false_iff.mpr c12
   subst c12
   have H1:(card_function_isPrime.l0 k1 a0_0 (wrap64 (x9_1 + 1)) a0_0 a0_1 a1_0 a1_1) = some r:=by rw [if_neg (show ¬ (false = true) by decide)] at H;exact H
   clear H
   have H:=H1
   clear H1
   have H':=Aside0.mk H
   clear H
   have hnb17:=NB138_137.out
   have hnc17:=NB137_138.out
   have hcz18_0:wr.cell? ⟨gb138,0,none⟩ = some (.int .i64 a1_0):=(blk_cell BK138.out 0).trans rfl
   have hcz18_1:wr.cell? ⟨gb138,1,none⟩ = some (.int .i64 a1_1):=(blk_cell BK138.out 1).trans rfl
   have hfz18_0:=blk_frozen BK138.out 0
   have hfz18_1:=blk_frozen BK138.out 1
   have hcz19_0:wr.cell? ⟨gb137,0,none⟩ = some (.int .i64 a0_0):=(blk_cell BK137.out 0).trans rfl
   have hcz19_1:wr.cell? ⟨gb137,1,none⟩ = some (.string a0_1):=(blk_cell BK137.out 1).trans rfl
   have hfz19_0:=blk_frozen BK137.out 0
   have hfz19_1:=blk_frozen BK137.out 1
   go_wp2_with (first | (go_at_call 119;(with_reducible refine (card_function_isImplicant.calls k1 a0_0 a0_1 (Go.bits .andNot .i64 a1_0 (ji9)) (Go.bits .andNot .i64 a1_1 (ji9)) false _ A11.out).mono ?_);rintro e w20 ⟨rfl,hb⟩;have n0_:=Aside0.mk (blk_below (g:=gb137) (o:=.cells #[.int .i64 a0_0,.string a0_1] 81 (0,0)) (by (with_reducible repeat (first | refine blk_drewN ?_ _ | refine blk_drew ?_ | refine blk_alloc ?_ _));exact BK137.out) hb);have n1_:=Aside0.mk (blk_below (g:=gb138) (o:=.cells #[.int .i64 a1_0,.int .i64 a1_1] 96 (0,0)) (by (with_reducible repeat (first | refine blk_drewN ?_ _ | refine blk_drew ?_ | refine blk_alloc ?_ _));exact BK138.out) hb);have n2_:=Aside0.mk (below_step (by repeat (first | (with_reducible first | exact HB.out | apply below_alloc | apply pw_below_drewN | apply below_drew1 | refine below_set ?_ GE137.out | refine below_set ?_ GE138.out) | exact HB.out)) hb);clear BK137;clear BK138;clear HB;have BK137:=n0_;have BK138:=n1_;have HB:=n2_;clear n0_ n1_ n2_;(try clear hb)))
   go_roundg k1
   case measure=>have:=HK1.out;omega
   case rel=>exact ⟨(wrap64 (x9_1 + 1)),(by first | rfl | (simp;done) | (simp [*];done)),H',⟨by have:=HK1.out;omega⟩,⟨by (with_reducible repeat (first | refine blk_drewN ?_ _ | refine blk_drew ?_ | refine blk_alloc ?_ _));exact BK137.out⟩,⟨by (with_reducible repeat (first | refine blk_drewN ?_ _ | refine blk_drew ?_ | refine blk_alloc ?_ _));exact BK138.out⟩,⟨by repeat (first | (with_reducible first | exact HB.out | apply below_alloc | apply pw_below_drewN | apply below_drew1 | refine below_set ?_ GE137.out | refine below_set ?_ GE138.out) | exact HB.out)⟩⟩
end Go.Proofs.Ythpahlkhiknofaa.G
namespace Go.Proofs.Ythpahlkhiknofaa.H
open Go Go.RowKit Go.Shelf Go.Proofs.Ythpahlkhiknofaa.G Go.Proofs.Ythpahlkhiknofaa.P Go.Proofs.YthpahlkhiknofaaW.PrintWords Go.Proofs.YthpahlkhiknofaaW.PrintLast Go.Proofs.YthpahlkhiknofaaW.PrintMore
attribute [local instance] inh96
def prAt (φ:Nat → Nat → Bool) (c v:Nat):Bool:=decide (Go.bits .andNot .i64 (v:Int) (c:Int) = 0) && φ c v
def inV (φ:Nat → Nat → Bool) (c j:Nat):List S96:=((List.range j).filter (fun v=>prAt φ c v)).map (fun v:Nat=>(⟨(c:Int),(v:Int)⟩:S96))
def outV (φ:Nat → Nat → Bool) (m i:Nat):List S96:=(List.range i).flatMap (fun c=>inV φ c m)
theorem inV_succ (φ:Nat → Nat → Bool) (c j:Nat):inV φ c (j + 1) = inV φ c j ++ (if prAt φ c j = true then [⟨(c:Int),(j:Int)⟩] else []):=by
 unfold inV
 rw [List.range_succ,List.filter_append,List.map_append]
 by_cases h:prAt φ c j = true
 ·simp [h]
 simp [h]
theorem outV_succ (φ:Nat → Nat → Bool) (m i:Nat):outV φ m (i + 1) = outV φ m i ++ inV φ i m:=by
 unfold outV
 rw [List.range_succ,List.flatMap_append]
 simp
theorem inV_len (φ:Nat → Nat → Bool) (c j:Nat):(inV φ c j).length ≤ j:=by
 unfold inV
 rw [List.length_map]
 exact Nat.le_trans (List.length_filter_le _ _) (by rw [List.length_range];exact Nat.le_refl _)
theorem outV_len (φ:Nat → Nat → Bool) (m:Nat):∀ i,(outV φ m i).length ≤ i * m
 | 0=>by simp [outV]
 | i + 1=>by
  rw [outV_succ,List.length_append,Nat.succ_mul]
  exact Nat.add_le_add (outV_len φ m i) (inV_len φ i m)
theorem both_len (φ:Nat → Nat → Bool) {m i j:Nat} (hm:m ≤ 32) (hi:i < m) (hj:j ≤ m):(outV φ m i ++ inV φ i j).length ≤ 1024:=by
 rw [List.length_append]
 have h1:=outV_len φ m i
 have h2:=inV_len φ i j
 have h3:i * m ≤ 31 * 32:=Nat.mul_le_mul (by omega) hm
 omega
theorem wrap_small (m:Nat) (h:m ≤ 1000):wrap64 (m:Int) = (m:Int):=by unfold wrap64;omega
set_option maxHeartbeats 4000000 in
set_option maxRecDepth 100000 in
theorem primes67 (k n:Nat) (s:ByteArray) (φ:Nat → Nat → Bool) (hn:n ≤ 5) (hp:∀ c v:Nat,c < 2 ^ n → v < 2 ^ n → Go.bits .andNot .i64 (v:Int) (c:Int) = 0 → card_function_isPrime.f k (n:Int) s (c:Int) (v:Int) = some (φ c v)) (w:World) :
  Calls Try.prog 67 #[.agg #[.int .i64 (n:Int),.string s]] w fun e w'=>∃ v l,e = .returned v ∧ Kd.R k96 96 w' w.heap.size (fun _=>True) v l ∧ l.Perm (outV φ (2 ^ n) (2 ^ n)) ∧ (∀ i j,i < j → j < l.length → cmpC n (rd_T96 l (j:Int)) (rd_T96 l (i:Int)) < 0 → False) ∧ Below w.heap.size w w':=by
 obtain ⟨m,hm⟩:∃ m,2 ^ n = m:=⟨_,rfl⟩
 have hm32:m ≤ 32:=by rw [← hm];exact (Nat.pow_le_pow_right (by decide) hn:2 ^ n ≤ 2 ^ 5)
 have hw:wrap64 (2 ^ n) = (m:Int):=by
  rw [show ((2:Int) ^ n) = (m:Int) from by rw [← hm];exact (Int.natCast_pow 2 n).symm]
  exact wrap_small m (by omega)
 rw [hm] at hp ⊢
 have HM:=Lib.hid hm
 clear hm
 have HP:=Lib.hid hp
 clear hp
 have h1:=World.alloc_heap_new w (.cells #[.int .i64 (n:Int),.string s] 81)
 obtain ⟨W1,hW1⟩:∃ W1,w.alloc (.cells #[.int .i64 (n:Int),.string s] 81) = W1:=⟨_,rfl⟩
 have hB1:Below w.heap.size w W1:=by rw [← hW1];exact (Below.refl _ _).alloc (Nat.le_refl _) _
 have hS1:W1.heap.size = w.heap.size + 1:=by rw [← hW1,World.size_alloc]
 rw [hW1] at h1
 have HG:=Lib.hid h1
 have HB1:=Lib.hid hB1
 have HS1:=Lib.hid hS1
 clear h1 hB1 hS1
 have hg0:=cell_of_row _ w.heap.size 0 _ _ _ HG.out
 go_enter Try.func67,Try.ntmps67
 go_wp2_with fail
 try simp only [hw]
 go_loopg [3,10] m (fun k v3 s10 W=>∃ i:Nat,s10 = .int .i64 (i:Int) ∧ i ≤ m ∧ m ≤ k + i ∧ Below (w.heap.size + 1) W1 W ∧ Kd.R k96 96 W (w.heap.size + 1) (fun _=>True) v3 (outV φ m i))
 case atStart=>exact ⟨0,rfl,by omega,by omega,Below.refl _ _,Kd.R_nil _ _ _ _ (fun _=>True)⟩
 case round =>
  obtain ⟨i,rfl,hi,hk,hB,hR⟩:=hrel
  have HB:=Lib.hid hB
  have HR:=Lib.hid hR
  clear hB hR
  have hwi:=wrap_succ (i:=i) (by omega)
  by_cases him:i < m
  case neg =>
   have:i = m:=by omega
   subst this
   by_cases h0:0 < (outV φ i i).length
   case neg =>
    have hz:(outV φ i i).length = 0:=by omega
    obtain ⟨A,c,hv⟩:=Kd.R_slice HR.out
    rw [hz] at hv
    subst hv
    have hl0:outV φ i i = []:=List.eq_nil_of_length_eq_zero hz
    have HZ:=Lib.hid hl0
    clear hl0 hz h0
    have hga:=cell_of_row _ w.heap.size 0 _ _ _ ((HB.out.block _ (Nat.lt_succ_self _)).trans HG.out)
    go_wp2_with fail
    refine (AnyF.slices_SortFunc_none Try.sortCube A c _ _).mono ?_
    rintro e w' ⟨rfl,rfl⟩
    go_wp2_with fail
    refine bodyPost_ret (v:=.slice A 0 c) (results_tmp (t:=2) rfl _ _ _) rfl ⟨_,[],rfl,?_,?_,?_,?_⟩
    ·have h:=HR.out
     rw [HZ.out] at h
     exact Kd.R_lower h (by omega)
    ·rw [HZ.out]
    ·intro a b _ hb
     cases hb
    have hw1:w.heap.size ≤ W1.heap.size:=by rw [HS1.out];omega
    exact HB1.out.trans (HB.out.mono (by omega))
   obtain ⟨g,cap,cur,rfl,hg,hh,hl1,hl2,hl3,hla,_⟩:=own96 HR.out h0
   have hga:=cell_of_row _ w.heap.size 0 _ _ _ ((HB.out.block _ (Nat.lt_succ_self _)).trans HG.out)
   have hlen:(outV φ i i).length ≤ 1024:=Nat.le_trans (outV_len φ i i) (Nat.mul_le_mul hm32 hm32)
   have hK:=holdsK_laid hh hla
   have HC:=Lib.hid (sort99 w.heap.size n (by omega) g 0 cap (outV φ i i).toArray wr (by omega) hga hK (blk_lt hh) (by rw [List.size_toArray];omega))
   have HH:=Lib.hid hh
   have HK:=Lib.hid hK
   have HL3:=Lib.hid hl3
   clear hh hK hla hl3
   go_wp2_with fail
   refine HC.out.mono ?_
   rintro e w' ⟨rfl,d',q,os,hp,hsd,rfl⟩
   obtain ⟨cur',hb',hs',hl',hbe⟩:=sorted_block q os HH.out HK.out hp.1
   go_wp2_with fail
   have hsz:d'.toList.length = (outV φ i i).length:=by rw [Array.length_toList,hp.1,List.size_toArray]
   refine bodyPost_ret (v:=.slice (some ⟨g,0,none⟩) (outV φ i i).length cap) (results_tmp (t:=2) rfl _ _ _) rfl ⟨_,d'.toList,rfl,?_,?_,?_,?_⟩
   ·rw [← hsz]
    exact laid_R (by omega) hb' (by rw [hsz];exact hl1) hl2 (by rw [hs',HL3.out]) hl'
   ·have h3:=hp.2.2
    simp at h3
    rw [← hsz,List.take_length] at h3
    exact h3
   ·intro a b hab hb hc
    have h4:=hsd a b (Nat.zero_le _) hab (by rw [List.size_toArray,← hsz];exact hb)
    have hbs:b < d'.size:=by rw [Array.length_toList] at hb;exact hb
    have ea:rd_T96 d'.toList (a:Int) = d'[a]!:=by
     unfold rd_T96
     rw [Int.toNat_natCast,List.getD_eq_getElem?_getD,List.getElem?_eq_getElem (by omega),getElem!_pos d' a (by omega)];rfl
    have eb:rd_T96 d'.toList (b:Int) = d'[b]!:=by
     unfold rd_T96
     rw [Int.toNat_natCast,List.getD_eq_getElem?_getD,List.getElem?_eq_getElem (by omega),getElem!_pos d' b (by omega)];rfl
    rw [ea,eb] at hc
    exact of_decide_eq_false h4 hc
   have hw1:w.heap.size ≤ W1.heap.size:=by rw [HS1.out];omega
   exact (HB1.out.trans (HB.out.mono (by omega))).trans (hbe.mono (by omega))
  have hga:=cell_of_row _ w.heap.size 0 _ _ _ ((HB.out.block _ (Nat.lt_succ_self _)).trans HG.out)
  go_wp2_with fail
  try simp only [hw]
  go_loopg [3,16] m (fun k2 v3 s16 W=>∃ j:Nat,s16 = .int .i64 (j:Int) ∧ j ≤ m ∧ m ≤ k2 + j ∧ Below (w.heap.size + 1) W1 W ∧ Kd.R k96 96 W (w.heap.size + 1) (fun _=>True) v3 (outV φ m i ++ inV φ i j))
  case atStart=>exact ⟨0,rfl,by omega,by omega,HB.out,by simpa [inV] using HR.out⟩
  case round =>
   clear HB HR hga
   obtain ⟨j,rfl,hj,hk2,hB,hR⟩:=hrel
   have HB:=Lib.hid hB
   have HR:=Lib.hid hR
   clear hB hR
   have hwj:=wrap_succ (i:=j) (by omega)
   by_cases hjm:j < m
   case neg =>
    have:j = m:=by omega
    subst this
    go_wp2_with fail
    go_roundg (j - (i + 1))
    case measure=>omega
    case rel=>exact ⟨i + 1,by first | rfl | simp [hwi],him,by omega,HB.out,by rw [outV_succ];exact HR.out⟩
   obtain ⟨W2,hW2⟩:∃ W2,wr.alloc (.cells #[.int .i64 (i:Int),.int .i64 (j:Int)] 96) = W2:=⟨_,rfl⟩
   have hB2:Below wr.heap.size wr W2:=by rw [← hW2];exact (Below.refl _ _).alloc (Nat.le_refl _) _
   have h2:=World.alloc_heap_new wr (.cells #[.int .i64 (i:Int),.int .i64 (j:Int)] 96)
   rw [hW2] at h2
   have hR2:Kd.R k96 96 W2 (w.heap.size + 1) (fun _=>True) u3 (outV φ m i ++ inV φ i j):=by rw [← hW2];exact Kd.R_alloc HR.out _
   have hsz:w.heap.size + 1 ≤ wr.heap.size:=by rw [← HS1.out];exact HB.out.size
   have hg2:=(hB2.block w.heap.size (by omega)).trans ((HB.out.block _ (Nat.lt_succ_self _)).trans HG.out)
   have hga:=cell_of_row _ w.heap.size 0 _ _ _ hg2
   have hgb:=cell_of_row _ w.heap.size 1 _ _ _ hg2
   have hca:=cell_of_row _ wr.heap.size 0 _ _ _ h2
   have hcb:=cell_of_row _ wr.heap.size 1 _ _ _ h2
   have hB12:Below (w.heap.size + 1) W1 W2:=HB.out.trans (hB2.mono hsz)
   have HB2:=Lib.hid hB12
   have HR2:=Lib.hid hR2
   have H2:=Lib.hid h2
   clear hB2 h2 hR2 hg2 hB12
   by_cases hz:Go.bits .andNot .i64 (j:Int) (i:Int) = 0
   case neg =>
    go_wp2_with fail
    go_roundg (m - (j + 1))
    case measure=>omega
    case rel=>exact ⟨j + 1,by first | rfl | simp [hwj],by omega,by omega,HB2.out,by rw [inV_succ,if_neg (by simp [prAt,hz]),List.append_nil];exact HR2.out⟩
   have HC:=Lib.hid (card_function_isPrime.calls k (n:Int) s (i:Int) (j:Int) (φ i j) W2 (HP.out i j him hjm hz))
   have hLM:=Lib.hid (both_len φ hm32 him hj)
   obtain ⟨b,hb⟩:∃ b,φ i j = b:=⟨_,rfl⟩
   rw [hb] at HC
   have HBV:=Lib.hid hb
   clear hb
   cases b with
   | true =>
    go_wp2_with (first | (go_at_call 98;(with_reducible refine HC.out.mono ?_);rintro e w5 ⟨rfl,hb5⟩;have hs5:=hb5.size;have hca5:=(hb5.cell (World.block_lt_of_cell? _ _ hca)).trans hca;have hcb5:=(hb5.cell (World.block_lt_of_cell? _ _ hcb)).trans hcb;have hW12:w.heap.size + 1 ≤ W2.heap.size:=Nat.le_trans hsz (Nat.le_of_lt (World.block_lt_of_cell? _ _ hca));have HB25:=Lib.hid (HB2.out.trans (hb5.mono hW12));have HR5:=Lib.hid (Kd.R_below HR2.out hb5);have hS5:=Lib.hid (Nat.le_trans hW12 hs5);clear hb5 hs5 hW12) | ((with_reducible refine gate_builtin (b:=.append) (xs:=#[.tmp 31,.tmp 33]) rfl ?_);at_builtin;refine Kd.R_append k96 (w0:=W1) (w.heap.size + 1) rfl (.tmp 31) (.tmp 33) 93 96 (.agg #[.int .i64 0,.int .i64 0]) 16 rfl Try.underlying93 info96 rfl (by decide) (by omega) u3 (outV φ m i ++ inV φ i j) (⟨(i:Int),(j:Int)⟩:S96) [.int .i64 (i:Int),.int .i64 (j:Int)] (fun _=>True) (fun _=>False) rfl (by first | (go_simp;done) | (go_simp;rfl)) ?aP (fun _ hk=>hk.elim) ?aF ?aO ?aB ?aS ?aL ?_;(case aP=>exact k96_mkM _ _ _ (⟨(i:Int),(j:Int)⟩:S96));(case aB=>exact (by repeat (first | (with_reducible first | exact HB25.out | apply below_alloc) | exact HB25.out)));(case aF=>exact fun _ _=>trivial);(case aO=>exact (by (with_reducible repeat (first | apply Kd.R_alloc | apply Kd.R_drewN | apply Kd.R_drew));exact HR5.out));(case aS=>have hq:Below W1.heap.size W1 w5:=(by rw [HS1.out];exact HB25.out);first | exact below_size (by repeat (first | (with_reducible first | exact hq | apply below_alloc | apply pw_below_drewN | apply below_drew1) | exact hq)) | (rw [← HS1.out];exact below_size (by repeat (first | (with_reducible first | exact hq | apply below_alloc | apply pw_below_drewN | apply below_drew1) | exact hq))));(case aL=>have:=hLM.out;omega);intro v6 w6 ho hb6 hg hat;have HO6:=Lib.hid ho;have HB6:=Lib.hid hb6;clear ho hb6 hg hat))
    go_roundg (m - (j + 1))
    case measure=>omega
    case rel=>exact ⟨j + 1,by first | rfl | simp [hwj],by omega,by omega,HB6.out,by rw [inV_succ,if_pos (by simp [prAt,hz,HBV.out]),← List.append_assoc];exact HO6.out⟩
   | false =>
    go_wp2_with (first | (go_at_call 98;(with_reducible refine HC.out.mono ?_);rintro e w5 ⟨rfl,hb5⟩;have hs5:=hb5.size;have hW12:w.heap.size + 1 ≤ W2.heap.size:=Nat.le_trans hsz (Nat.le_of_lt (World.block_lt_of_cell? _ _ hca));have HB25:=Lib.hid (HB2.out.trans (hb5.mono hW12));have HR5:=Lib.hid (Kd.R_below HR2.out hb5);clear hb5 hs5 hW12))
    go_roundg (m - (j + 1))
    case measure=>omega
    case rel=>exact ⟨j + 1,by first | rfl | simp [hwj],by omega,by omega,HB25.out,by rw [inV_succ,if_neg (by simp [prAt,hz,HBV.out]),List.append_nil];exact HR5.out⟩
end Go.Proofs.Ythpahlkhiknofaa.H
namespace Go.Proofs.Ythpahlkhiknofaa.H
open Go Go.RowKit Go.Shelf Go.Proofs.Ythpahlkhiknofaa.G Go.Proofs.Ythpahlkhiknofaa.P Go.Proofs.YthpahlkhiknofaaW.PrintWords
instance dec96:DecidableEq S96:=fun a b=>decidable_of_iff (a.f0 = b.f0 ∧ a.f1 = b.f1) ⟨fun h=>by cases a;cases b;cases h;simp_all,fun h=>by rw [h];exact ⟨rfl,rfl⟩⟩
/-- All cubes of so many variables,in ascending order of their texts. -/
def ordL:Nat → List S96
  | 0=>[⟨0,0⟩]
  | i + 1=>(ordL i).flatMap fun x=>[x,⟨x.f0 + 2 ^ i,x.f1⟩,⟨x.f0 + 2 ^ i,x.f1 + 2 ^ i⟩]
def rawL (n:Nat):List S96:=(List.range (2 ^ n)).flatMap fun c:Nat=>((List.range (2 ^ n)).filter fun v:Nat=>decide (Go.bits .andNot .i64 (v:Int) (c:Int) = 0)).map fun v:Nat=>(⟨(c:Int),(v:Int)⟩:S96)
def ascB (n:Nat):List S96 → Bool
  | a :: b :: r=>decide (cmpC n a b < 0) && ascB n (b :: r)
  | _=>true
theorem ord_asc:∀ n:Fin 6,ascB n.val (ordL n.val) = true:=by decide +kernel
theorem ord_perm:∀ n:Fin 6,(rawL n.val).isPerm (ordL n.val) = true:=by decide +kernel
end Go.Proofs.Ythpahlkhiknofaa.H
set_option linter.unusedSectionVars false
namespace Go.Proofs.Ythpahlkhiknofaa.P
open Go Go.RowKit Go.Proofs.Ythpahlkhiknofaa.M Go.Proofs.Ythpahlkhiknofaa.G
open Go.Proofs.YthpahlkhiknofaaW.PrintWords Go.Proofs.YthpahlkhiknofaaW.PrintMore
def hasN (c v p:Nat):Bool:=p &&& c == v
def fitsN (s:ByteArray) (c v:Nat):Bool:=allF (fun p=>!(hasN c v p && (bt s (p:Int) == 48))) s.size 0
def noneN (s:ByteArray) (c v:Nat):Bool:=allF (fun p=>!(hasN c v p && (bt s (p:Int) == 49))) s.size 0
def impN (s:ByteArray) (c v:Nat):Bool:=!noneN s c v && fitsN s c v
def primeN (s:ByteArray) (n c v:Nat):Bool:=allF (fun i=>!(c.testBit i && impN s (andNot c (2 ^ i)) (andNot v (2 ^ i)))) n 0 && impN s c v
theorem has_f {c p:Nat} (v:Nat) (hc:c < 2 ^ 60) (hp:p < 2 ^ 60):card_cube_has.f (c:Int) (v:Int) (p:Int) = some (hasN c v p):=by
  unfold card_cube_has.f hasN
  rw [ni_and p c (by omega) (by omega)]
  congr 1
  rw [Bool.eq_iff_iff,beq_iff_eq,beq_iff_eq]
  exact ⟨fun h=>by omega,fun h=>by rw [h]⟩
theorem and_bit0 {c i:Nat} (h:c.testBit i = false):c &&& 2 ^ i = 0:=by
  apply Nat.eq_of_testBit_eq
  intro j
  rw [Nat.testBit_and,Nat.zero_testBit,Nat.testBit_two_pow]
  by_cases e:i = j
  · subst e;rw [h,Bool.false_and]
  · rw [decide_eq_false e,Bool.and_false]
theorem and_bit1 {c i:Nat} (h:c.testBit i = true):0 < c &&& 2 ^ i:=by
  rcases Nat.eq_zero_or_pos (c &&& 2 ^ i) with e | e
  · have:(c &&& 2 ^ i).testBit i = true:=by rw [Nat.testBit_and,h,Nat.testBit_two_pow_self];rfl
    rw [e,Nat.zero_testBit] at this
    cases this
  · exact e
theorem small60 {p:Nat} (h:p < 64):p < 2 ^ 60:=Nat.lt_of_lt_of_le h (by decide)
section
variable {s:ByteArray} (hs:s.size ≤ 40) {c v:Nat} (hc:c < 2 ^ 60)
include hs hc
theorem fits_l0 (m:Int):∀ d i,i + d = s.size → Ev (fun k=>card_function_fits.l0 k (s.size:Int) (i:Int) m s (c:Int) (v:Int)) (allF (fun p=>!(hasN c v p && (bt s (p:Int) == 48))) d i):=by
  intro d
  induction d with
  | zero =>
    intro i hi
    refine Ev.step (f:=fun _=>some true) (fun k=>?_) (Ev.now _)
    rw [card_function_fits.l0,if_neg (by omega)]
  | succ d ih =>
    intro i hi
    have hn:=ih (i + 1) (by omega)
    refine Ev.step (fun k=>by rw [card_function_fits.l0,if_pos (by omega),has_f v hc (small60 (by omega)),Option.bind_some,wrap_succ (by omega)]) ?_
    rw [allF]
    cases h:hasN c v i with
    | false=>exact Ev.congr (fun k=>if_neg (by decide)) hn
    | true =>
      refine Ev.congr (fun k=>if_pos rfl) (Ev.congr (fun k=>if_pos (by omega)) (Ev.congr (fun k=>if_pos (by omega)) ?_))
      by_cases h2:bt s (i:Int) = 48
      · rw [show (bt s (i:Int) == 48) = true from beq_iff_eq.2 h2]
        exact Ev.congr (fun k=>if_pos h2) (Ev.now _)
      · rw [show (bt s (i:Int) == 48) = false from beq_eq_false_iff_ne.2 h2]
        exact Ev.congr (fun k=>if_neg h2) hn
theorem ev_fits (m:Int):Ev (fun k=>card_function_fits.f k m s (c:Int) (v:Int)) (fitsN s c v):=fits_l0 hs hc m s.size 0 (by omega)
theorem imp_l0 (m:Int):∀ d i (b:Bool),i + d = s.size → Ev (fun k=>card_function_isImplicant.l0 k b (s.size:Int) (i:Int) m s (c:Int) (v:Int)) ((b || !allF (fun p=>!(hasN c v p && (bt s (p:Int) == 49))) d i) && fitsN s c v):=by
  intro d
  induction d with
  | zero =>
    intro i b hi
    refine Ev.step (fun k=>by rw [card_function_isImplicant.l0,if_neg (by omega)]) ?_
    cases b with
    | true=>exact Ev.congr (fun k=>if_pos rfl) (Ev.bind (ev_fits hs hc m) (Ev.now _))
    | false=>exact Ev.congr (fun k=>if_neg (by decide)) (Ev.now _)
  | succ d ih =>
    intro i b hi
    refine Ev.step (fun k=>by rw [card_function_isImplicant.l0,if_pos (by omega),has_f v hc (small60 (by omega)),Option.bind_some,wrap_succ (by omega)]) ?_
    rw [allF]
    cases b with
    | true =>
      refine Ev.congr (fun k=>if_pos rfl) ?_
      have hn:=ih (i + 1) true (by omega)
      simpa using hn
    | false =>
      refine Ev.congr (fun k=>if_neg (by decide)) ?_
      cases h:hasN c v i with
      | false =>
        have hn:=ih (i + 1) false (by omega)
        refine Ev.congr (fun k=>if_neg (by decide)) ?_
        simpa using hn
      | true =>
        refine Ev.congr (fun k=>if_pos rfl) (Ev.congr (fun k=>if_pos (by omega)) (Ev.congr (fun k=>if_pos (by omega)) ?_))
        have hn:=ih (i + 1) (bt s (i:Int) == 49) (by omega)
        cases h2:(bt s (i:Int) == 49) with
        | true=>rw [h2] at hn;simpa using hn
        | false=>rw [h2] at hn;simpa using hn
theorem ev_imp (m:Int):Ev (fun k=>card_function_isImplicant.f k m s (c:Int) (v:Int)) (impN s c v):=by
  have h:=imp_l0 hs hc (v:=v) m s.size 0 false (by omega)
  exact h
end
section
variable {s:ByteArray} (hs:s.size ≤ 40) {c v n:Nat} (hc:c < 2 ^ 60) (hv:v < 2 ^ 60) (hn:n ≤ 5)
include hs hc hv hn
theorem prime_l0:∀ d i,i + d = n → Ev (fun k=>card_function_isPrime.l0 k (n:Int) (i:Int) (n:Int) s (c:Int) (v:Int)) (allF (fun i=>!(c.testBit i && impN s (andNot c (2 ^ i)) (andNot v (2 ^ i)))) d i && impN s c v):=by
  intro d
  induction d with
  | zero =>
    intro i hi
    refine Ev.step (fun k=>by rw [card_function_isPrime.l0,if_neg (by omega)]) (Ev.bind (ev_imp hs hc n) ?_)
    exact Ev.now _
  | succ d ih =>
    intro i hi
    have hnx:=ih (i + 1) (by omega)
    have h32:2 ^ i < 2 ^ 60:=Nat.pow_lt_pow_right (by decide) (by omega)
    refine Ev.step (fun k=>by rw [card_function_isPrime.l0,if_pos (by omega),if_pos (by omega),shl_one (by omega),ni_and c (2 ^ i) (by omega) (by omega),ni_andNot c (2 ^ i) (by omega),ni_andNot v (2 ^ i) (by omega),wrap_succ (by omega)]) ?_
    rw [allF]
    have hp:=Nat.two_pow_pos i
    cases h:c.testBit i with
    | false=>exact Ev.congr (fun k=>if_neg (by rw [and_bit0 h];decide)) hnx
    | true =>
      refine Ev.congr (fun k=>if_pos (by have:=and_bit1 h;omega)) (Ev.bind (ev_imp hs (andNot_lt hc) n) ?_)
      cases h2:impN s (andNot c (2 ^ i)) (andNot v (2 ^ i)) with
      | true=>exact Ev.congr (fun k=>if_pos rfl) (Ev.now _)
      | false=>exact Ev.congr (fun k=>if_neg (by decide)) hnx
theorem ev_prime:Ev (fun k=>card_function_isPrime.f k (n:Int) s (c:Int) (v:Int)) (primeN s n c v):=prime_l0 hs hc hv hn n 0 (by omega)
end
/-- One number of rounds for all. -/
theorem ev_all {α:Type} {g:Nat → Nat → Option α} {r:Nat → α}:∀ m,(∀ i,i < m → Ev (fun k=>g k i) (r i)) → ∃ K,∀ k,K ≤ k → ∀ i,i < m → g k i = some (r i)
  | 0,_=>⟨0,fun _ _ i hi=>by omega⟩
  | m + 1,h=>by
    obtain ⟨K,hK⟩:=ev_all m fun i hi=>h i (by omega)
    obtain ⟨J,hJ⟩:=h m (by omega)
    refine ⟨max K J,fun k hk i hi=>?_⟩
    by_cases e:i = m
    · subst e;exact hJ k (by omega)
    · exact hK k (by omega) i (by omega)
theorem ev_primes {s:ByteArray} (hs:s.size ≤ 40) {n:Nat} (hn:n ≤ 5):∃ k,∀ c v:Nat,c < 2 ^ n → v < 2 ^ n → card_function_isPrime.f k (n:Int) s (c:Int) (v:Int) = some (primeN s n c v):=by
  have h60:∀ x,x < 2 ^ n → x < 2 ^ 60:=fun x hx=>Nat.lt_of_lt_of_le hx (Nat.pow_le_pow_right (by decide) (by omega))
  have hp:=Nat.two_pow_pos n
  obtain ⟨K,hK⟩:=ev_all (g:=fun k i=>card_function_isPrime.f k (n:Int) s ((i / 2 ^ n:Nat):Int) ((i % 2 ^ n:Nat):Int)) (r:=fun i=>primeN s n (i / 2 ^ n) (i % 2 ^ n)) (2 ^ n * 2 ^ n) fun i hi =>
    ev_prime hs (h60 _ (Nat.div_lt_of_lt_mul hi)) (h60 _ (Nat.mod_lt _ hp)) hn
  refine ⟨K,fun c v hc hv=>?_⟩
  have hcv:c * 2 ^ n + v < 2 ^ n * 2 ^ n:=by
    have:(c + 1) * 2 ^ n ≤ 2 ^ n * 2 ^ n:=Nat.mul_le_mul_right _ hc
    rw [Nat.succ_mul] at this
    omega
  have:=hK K (Nat.le_refl _) (c * 2 ^ n + v) hcv
  rw [show (c * 2 ^ n + v) / 2 ^ n = c by rw [Nat.mul_comm,Nat.mul_add_div hp,Nat.div_eq_of_lt hv];rfl,show (c * 2 ^ n + v) % 2 ^ n = v by rw [Nat.mul_comm,Nat.mul_add_mod,Nat.mod_eq_of_lt hv]] at this
  exact this
end Go.Proofs.Ythpahlkhiknofaa.P
namespace Go.Proofs.Ythpahlkhiknofaa.H
open Go Go.RowKit Go.Shelf Go.Proofs.Ythpahlkhiknofaa.G Go.Proofs.Ythpahlkhiknofaa.P Go.Proofs.YthpahlkhiknofaaW.PrintWords
theorem asc_pair (n:Nat):∀ l:List S96,ascB n l = true → l.Pairwise (fun a b=>cmpC n a b < 0)
 | [],_=>List.Pairwise.nil
 | [a],_=>List.pairwise_singleton _ _
 | a :: b :: r,h=>by
  rw [ascB,Bool.and_eq_true] at h
  have ih:=asc_pair n (b :: r) h.2
  have hab:=of_decide_eq_true h.1
  refine List.Pairwise.cons (fun c hc=>?_) ih
  rcases List.mem_cons.1 hc with rfl | hc
  ·exact hab
  exact cb_trans _ _ _ hab ((List.pairwise_cons.1 ih).1 c hc)
theorem raw_filter (φ:Nat → Nat → Bool) (n:Nat):outV φ (2 ^ n) (2 ^ n) = (rawL n).filter fun x=>φ x.f0.toNat x.f1.toNat:=by
 unfold outV rawL
 rw [List.filter_flatMap]
 congr 1
 funext c
 unfold inV
 rw [List.filter_map,List.filter_filter]
 congr 1
 refine List.filter_congr fun v _=>?_
 unfold prAt
 simp [Function.comp,Bool.and_comm]
theorem sorted_eq {n:Nat} (hn:n ≤ 5) (φ:Nat → Nat → Bool) {l:List S96} (hp:l.Perm (outV φ (2 ^ n) (2 ^ n))) (hs:∀ i j,i < j → j < l.length → cmpC n (rd_T96 l (j:Int)) (rd_T96 l (i:Int)) < 0 → False):l = (ordL n).filter fun x=>φ x.f0.toNat x.f1.toNat:=by
 have ha:=asc_pair n _ (ord_asc ⟨n,by omega⟩)
 have hpm:=List.isPerm_iff.1 (ord_perm ⟨n,by omega⟩)
 simp only at ha hpm
 have hp2:l.Perm ((ordL n).filter fun x=>φ x.f0.toNat x.f1.toNat):=by
  rw [raw_filter] at hp
  exact hp.trans (hpm.filter _)
 have hlt:((ordL n).filter fun x=>φ x.f0.toNat x.f1.toNat).Pairwise (fun a b=>cmpC n a b < 0):=ha.filter _
 refine List.Perm.eq_of_pairwise (le:=fun a b=>¬ cmpC n b a < 0) ?_ ?_ ?_ hp2
 ·intro a b ha1 hb1 h1 h2
  have ha2:=hp2.mem_iff.1 ha1
  obtain ⟨i,hi,rfl⟩:=List.getElem_of_mem ha2
  obtain ⟨j,hj,rfl⟩:=List.getElem_of_mem hb1
  rcases Nat.lt_trichotomy i j with h | h | h
  ·exact absurd (List.pairwise_iff_getElem.1 hlt i j hi hj h) h2
  ·subst h;rfl
  exact absurd (List.pairwise_iff_getElem.1 hlt j i hj hi h) h1
 ·rw [List.pairwise_iff_getElem]
  intro i j hi hj hij h
  refine hs i j hij hj ?_
  have e:∀ k (hk:k < l.length),rd_T96 l (k:Int) = l[k]:=fun k hk=>by
   unfold rd_T96
   rw [Int.toNat_natCast,List.getD_eq_getElem?_getD,List.getElem?_eq_getElem hk];rfl
  rw [e i hi,e j hj];exact h
 refine hlt.imp fun {a b} h h2=>?_
 exact cb_irr _ (cb_trans _ _ _ h h2)
end Go.Proofs.Ythpahlkhiknofaa.H
namespace Go.Proofs.Ythpahlkhiknofaa.G
open Go Go.RowKit Go.Proofs.YthpahlkhiknofaaW.PrintWords
def primesL (n:Nat) (s:ByteArray):List S96:=(H.ordL n).filter fun x=>P.primeN s n x.f0.toNat x.f1.toNat
def card_function_primes.f (a0_0:Int) (a0_1:ByteArray):Option (List S96):=if 0 ≤ a0_0 ∧ a0_0 ≤ 5 ∧ a0_1.size ≤ 40 then some (primesL a0_0.toNat a0_1) else none
theorem card_function_primes.calls (a0_0:Int) (a0_1:ByteArray) (r:List S96) (w:World) (h:card_function_primes.f a0_0 a0_1 = some r) :
  Calls Try.prog 67 #[.agg #[.int .i64 a0_0,.string a0_1]] w fun e w'=>∃ v,e = .returned v ∧ Kd.R k96 96 w' w.heap.size (fun _=>True) v r ∧ Below w.heap.size w w':=by
 unfold card_function_primes.f at h
 by_cases hf:0 ≤ a0_0 ∧ a0_0 ≤ 5 ∧ a0_1.size ≤ 40
 case neg =>
  rw [if_neg hf] at h
  cases h
 rw [if_pos hf] at h
 obtain rfl:=Option.some.inj h
 obtain ⟨n,rfl⟩:∃ n:Nat,a0_0 = (n:Int):=⟨a0_0.toNat,by omega⟩
 rw [Int.toNat_natCast]
 obtain ⟨k,hk⟩:=P.ev_primes (s:=a0_1) hf.2.2 (n:=n) (by omega)
 refine (H.primes67 k n a0_1 (P.primeN a0_1 n) (by omega) (fun c v hc hv _=>hk c v hc hv) w).mono fun e w' h=>?_
 obtain ⟨v,l,rfl,hr,hp,hs,hb⟩:=h
 obtain rfl:=H.sorted_eq (n:=n) (by omega) _ hp hs
 exact ⟨v,rfl,hr,hb⟩
end Go.Proofs.Ythpahlkhiknofaa.G
set_option linter.unusedSectionVars false
set_option linter.unusedSectionVars false
namespace Go.Proofs.Ythpahlkhiknofaa.P
open Go Go.RowKit Go.Proofs.Ythpahlkhiknofaa.M Go.Proofs.Ythpahlkhiknofaa.G
open Go.Proofs.YthpahlkhiknofaaW.PrintWords Go.Proofs.YthpahlkhiknofaaW.PrintMore
/-- What is known of a total function. -/
structure Tot (c:ByteArray) (n:Nat):Prop where
  n1:1 ≤ n
  n5:n ≤ 5
  size:c.size = 2 ^ n
  le:c.size ≤ 32
  val:∀ p,p < c.size → bt c (p:Int) = 48 ∨ bt c (p:Int) = 49
end Go.Proofs.Ythpahlkhiknofaa.P
namespace Go.Proofs.Ythpahlkhiknofaa.G
open Go.RowKit Go.Proofs.YthpahlkhiknofaaW.PrintWords Go.Proofs.YthpahlkhiknofaaW.PrintLast Go.Proofs.YthpahlkhiknofaaW.PrintMore
set_option maxHeartbeats 8000000
set_option maxRecDepth 100000
attribute [local go_sem] max2_int min2_int max_two min_two max_three min_three max_four min_four   -- for this text's walks alone
mutual
def numnahref01_Covers.l0:Nat → ByteArray → List ByteArray → Int → Option (Bool)
 | 0,_,_,_=>none
 | k + 1,x0,x1,x5=>if x5 < (x0.size:Int) then (numnahref01_Covers.l1 k x0 x1 x5 false 0) else (some true)
def numnahref01_Covers.l1:Nat → ByteArray → List ByteArray → Int → Bool → Int → Option (Bool)
 | 0,_,_,_,_,_=>none
 | k + 1,x0,x1,x5,x6,x7=>if x7 < (x1.length:Int) then (if x6 = true then (numnahref01_Covers.l1 k x0 x1 x5 true (wrap64 (x7 + 1))) else (if 0 ≤ x7 then ((numnahref01_Contains.f k (rdOf ByteArray.empty x1 x7) x5).bind fun t224=>(numnahref01_Covers.l1 k x0 x1 x5 t224 (wrap64 (x7 + 1)))) else (none))) else (if 0 ≤ x5 then (if x5 < (x0.size:Int) then (if (bt x0 x5) = 48 then (if x6 = true then (some false) else (if (bt x0 x5) = 49 then (some false) else (numnahref01_Covers.l0 k x0 x1 (wrap64 (x5 + 1))))) else (if (bt x0 x5) = 49 then (if x6 = true then (numnahref01_Covers.l0 k x0 x1 (wrap64 (x5 + 1))) else (some false)) else (numnahref01_Covers.l0 k x0 x1 (wrap64 (x5 + 1))))) else (none)) else (none))
end
def numnahref01_Covers.f (k:Nat) (a0:ByteArray) (l1:List ByteArray):Option (Bool):=numnahref01_Covers.l0 k a0 l1 0
theorem numnahref01_Covers.mono_l:∀ k,(∀ y0 y1 y2,LeO (numnahref01_Covers.l0 k y0 y1 y2) (numnahref01_Covers.l0 (k + 1) y0 y1 y2)) ∧ (∀ y0 y1 y2 y3 y4,LeO (numnahref01_Covers.l1 k y0 y1 y2 y3 y4) (numnahref01_Covers.l1 (k + 1) y0 y1 y2 y3 y4))
 | 0=>⟨fun _ _ _ r h=>by simp [numnahref01_Covers.l0] at h,fun _ _ _ _ _ r h=>by simp [numnahref01_Covers.l1] at h⟩
 | k + 1=>by
  obtain ⟨ih0,ih1⟩:=numnahref01_Covers.mono_l k
  refine ⟨?_,?_⟩
  ·intro y0 y1 y2
   unfold numnahref01_Covers.l0
   repeat' first
   | (with_reducible exact ih0 _ _ _)
   | (with_reducible exact ih1 _ _ _ _ _)
   | (with_reducible exact numnahref01_Contains.mono _ _ _)
   | (with_reducible exact LeO.refl _)
   | (with_reducible exact LeO.none _)
   | (with_reducible refine LeO.ite ?_ ?_)
   | (with_reducible refine LeO.bind ?_ (fun _=>?_))
   | exact ih0 _ _ _
   | exact ih1 _ _ _ _ _
   | exact numnahref01_Contains.mono _ _ _
   | exact LeO.none _
   | refine LeO.ite ?_ ?_
   | refine LeO.bind ?_ (fun _=>?_)
  intro y0 y1 y2 y3 y4
  unfold numnahref01_Covers.l1
  repeat' first
  | (with_reducible exact ih0 _ _ _)
  | (with_reducible exact ih1 _ _ _ _ _)
  | (with_reducible exact numnahref01_Contains.mono _ _ _)
  | (with_reducible exact LeO.refl _)
  | (with_reducible exact LeO.none _)
  | (with_reducible refine LeO.ite ?_ ?_)
  | (with_reducible refine LeO.bind ?_ (fun _=>?_))
  | exact ih0 _ _ _
  | exact ih1 _ _ _ _ _
  | exact numnahref01_Contains.mono _ _ _
  | exact LeO.none _
  | refine LeO.ite ?_ ?_
  | refine LeO.bind ?_ (fun _=>?_)
theorem numnahref01_Covers.mono:∀ a0 a1 k,LeO (numnahref01_Covers.f k a0 a1) (numnahref01_Covers.f (k + 1) a0 a1):=by
 intro a0 a1 k
 obtain ⟨ih0,ih1⟩:=numnahref01_Covers.mono_l k
 unfold numnahref01_Covers.f
 repeat' first
   | (with_reducible exact ih0 _ _ _)
   | (with_reducible exact ih1 _ _ _ _ _)
   | (with_reducible exact numnahref01_Contains.mono _ _ _)
   | (with_reducible exact LeO.refl _)
   | (with_reducible exact LeO.none _)
   | (with_reducible refine LeO.ite ?_ ?_)
   | (with_reducible refine LeO.bind ?_ (fun _=>?_))
   | exact ih0 _ _ _
   | exact ih1 _ _ _ _ _
   | exact numnahref01_Contains.mono _ _ _
   | exact LeO.none _
   | refine LeO.ite ?_ ?_
   | refine LeO.bind ?_ (fun _=>?_)
theorem numnahref01_Covers.calls (k:Nat) (a0:ByteArray) (A1:Option Addr) (c1:Nat) (l1:List ByteArray) (r:Bool) (w:World) (hr1:Kd.C Kd.string w A1 l1.length l1) (hc1:l1.length ≤ c1) (h:numnahref01_Covers.f k a0 l1 = some r) :
  Calls Try.prog 33 #[.string a0,.slice A1 l1.length c1] w fun e w'=>e = .returned (.bool r) ∧ Drawn0 w w':=by
 have HR1:=Aside0.mk hr1
 have HC1:=Aside0.mk hc1
 clear hr1 hc1
 have H:(numnahref01_Covers.l0 k a0 l1 0) = some r:=h
 clear h
 have H':=Aside0.mk H
 clear H
 go_enter Try.func33,Try.ntmps33
 go_wp2
 go_loopg [5] k (fun kq v5 w'=>∃ (x5_1:Int),v5 = .int .i64 x5_1 ∧ Aside0 (numnahref01_Covers.l0 kq a0 l1 x5_1 = some r) ∧ Aside0 (kq ≤ k) ∧ Drawn0 w w')
 case atStart=>exact ⟨(0),(by first | rfl | (simp;done) | (simp [*];done)),H',⟨Nat.le_refl _⟩,by repeat (first | exact Drawn0.refl _ | apply Drawn0.step)⟩
 case round =>
  clear H'
  try clear c1
  try clear p2
  obtain ⟨x5_1,rfl,HA,HK1,⟨m1,rfl⟩⟩:=hrel
  cases gk with
  | zero=>exact absurd HA.out (by simp [numnahref01_Covers.l0])
  | succ k1 =>
   have H:=HA.out
   clear HA
   simp only [numnahref01_Covers.l0] at H
   by_cases c3:x5_1 < (a0.size:Int)
   case neg =>
    rw [if_neg c3] at H
    have c3b0:decide (x5_1 < (a0.size:Int)) = false:=decide_eq_false c3
    clear c3
    obtain rfl:=Option.some.inj H
    go_wp2
    go_ret
    exact ⟨by first | rfl | (simp;done) | (simp [*];done),by repeat (first | exact Drawn0.refl _ | apply Drawn0.step)⟩
   rw [if_pos c3] at H
   have c3b0:decide (x5_1 < (a0.size:Int)) = true:=decide_eq_true c3
   clear c3
   have H':=Aside0.mk H
   clear H
   go_wp2
   go_loopg [6,7] k1 (fun kq v6 v7 w'=>∃ (x6_2:Bool) (x7_2:Int),v6 = .bool x6_2 ∧ v7 = .int .i64 x7_2 ∧ Aside0 (numnahref01_Covers.l1 kq a0 l1 x5_1 x6_2 x7_2 = some r) ∧ Aside0 (kq ≤ k1) ∧ Drawn0 w w')
   case atStart=>exact ⟨(false),(0),(by first | rfl | (simp;done) | (simp [*];done)),(by first | rfl | (simp;done) | (simp [*];done)),H',⟨Nat.le_refl _⟩,by repeat (first | exact Drawn0.refl _ | apply Drawn0.step)⟩
   case round =>
    clear H'
    try clear c1
    try clear p2
    try clear c3
    try clear c3b0
    try clear p2
    obtain ⟨x6_2,x7_2,rfl,rfl,HA,HK2,⟨m2,rfl⟩⟩:=hrel
    cases gk with
    | zero=>exact absurd HA.out (by simp [numnahref01_Covers.l1])
    | succ k2 =>
     have H:=HA.out
     clear HA
     simp only [numnahref01_Covers.l1] at H
     by_cases c4:x7_2 < (l1.length:Int)
     ·rw [if_pos c4] at H
      have c4b0:decide (x7_2 < (l1.length:Int)) = true:=decide_eq_true c4
      clear c4
      by_cases c5:x6_2 = true
      ·subst c5
       have H1:(numnahref01_Covers.l1 k2 a0 l1 x5_1 true (wrap64 (x7_2 + 1))) = some r:=by rw [if_pos rfl] at H;exact H
       clear H
       have H:=H1
       clear H1
       have H':=Aside0.mk H
       clear H
       go_wp2
       go_roundg k2
       case measure=>have:=HK1.out;have:=HK2.out;omega
       case rel=>exact ⟨(true),(wrap64 (x7_2 + 1)),(by first | rfl | (simp;done) | (simp [*];done)),(by first | rfl | (simp;done) | (simp [*];done)),H',⟨by have:=HK1.out;have:=HK2.out;omega⟩,by repeat (first | exact Drawn0.refl _ | apply Drawn0.step)⟩
      replace c5:=Bool.eq_false_iff.mpr c5
      subst c5
      have H1:(if 0 ≤ x7_2 then ((numnahref01_Contains.f k2 (rdOf ByteArray.empty l1 x7_2) x5_1).bind fun t224=>(numnahref01_Covers.l1 k2 a0 l1 x5_1 t224 (wrap64 (x7_2 + 1)))) else (none)) = some r:=by rw [if_neg (show ¬ (false = true) by decide)] at H;exact H
      clear H
      have H:=H1
      clear H1
      by_cases c6:0 ≤ x7_2
      case neg =>
       rw [if_neg c6] at H
       exact absurd H (by simp)
      rw [if_pos c6] at H
      have c6b0:decide (0 ≤ x7_2) = true:=decide_eq_true c6
      clear c6
      replace H:=Option.bind_eq_some_iff.mp H
      obtain ⟨t224,A70,H⟩:=H
      replace H:(numnahref01_Covers.l1 k2 a0 l1 x5_1 t224 (wrap64 (x7_2 + 1))) = some r:=H
      have A7:=Aside0.mk A70
      clear A70
      have H':=Aside0.mk H
      clear H
      have p223:0 ≤ (x7_2:Int):=of_decide_eq_true (by first | (with_reducible assumption) | assumption)
      have q223:x7_2 < (l1.length:Int):=of_decide_eq_true (by first | (with_reducible assumption) | assumption)
      obtain ⟨ad223,e223,hx223_0⟩:=Kd.at_string HR1.out x7_2 p223 q223
      cases e223
      replace p223:=eq_true p223
      replace q223:=eq_true q223
      go_wp2_with (first | (go_at_call 68;(with_reducible refine (numnahref01_Contains.calls k2 (rdOf ByteArray.empty l1 x7_2) x5_1 t224 _ A7.out).mono ?_);rintro e w' ⟨rfl,⟨nd,rfl⟩⟩))
      go_roundg k2
      case measure=>have:=HK1.out;have:=HK2.out;omega
      case rel=>exact ⟨(t224),(wrap64 (x7_2 + 1)),(by first | rfl | (simp;done) | (simp [*];done)),(by first | rfl | (simp;done) | (simp [*];done)),H',⟨by have:=HK1.out;have:=HK2.out;omega⟩,by repeat (first | exact Drawn0.refl _ | apply Drawn0.step)⟩
     rw [if_neg c4] at H
     have c4b0:decide (x7_2 < (l1.length:Int)) = false:=decide_eq_false c4
     clear c4
     by_cases c8:0 ≤ x5_1
     case neg =>
      rw [if_neg c8] at H
      exact absurd H (by simp)
     rw [if_pos c8] at H
     have c8b0:decide (0 ≤ x5_1) = true:=decide_eq_true c8
     clear c8
     by_cases c9:x5_1 < (a0.size:Int)
     case neg =>
      rw [if_neg c9] at H
      exact absurd H (by simp)
     rw [if_pos c9] at H
     have c9b0:decide (x5_1 < (a0.size:Int)) = true:=decide_eq_true c9
     clear c9
     by_cases c11:(bt a0 x5_1) = 48
     ·rw [if_pos c11] at H
      have c11b0:((bt a0 x5_1) == 48) = true:=beq_iff_eq.mpr c11
      have c11b1:((bt a0 x5_1) != 48) = false:=bne_eq_false_iff_eq.mpr c11
      clear c11
      by_cases c12:x6_2 = true
      ·subst c12
       have H1:(some false) = some r:=by rw [if_pos rfl] at H;exact H
       clear H
       have H:=H1
       clear H1
       obtain rfl:=Option.some.inj H
       have p10:0 ≤ (x5_1:Int):=of_decide_eq_true (by first | (with_reducible assumption) | assumption)
       have q10:x5_1 < (a0.size:Int):=of_decide_eq_true (by first | (with_reducible assumption) | assumption)
       have hx10:=bt_at a0 x5_1
       replace p10:=eq_true p10
       replace q10:=eq_true q10
       go_wp2
       go_ret
       exact ⟨by first | rfl | (simp;done) | (simp [*];done),by repeat (first | exact Drawn0.refl _ | apply Drawn0.step)⟩
      replace c12:=Bool.eq_false_iff.mpr c12
      subst c12
      have H1:(if (bt a0 x5_1) = 49 then (some false) else (numnahref01_Covers.l0 k2 a0 l1 (wrap64 (x5_1 + 1)))) = some r:=by rw [if_neg (show ¬ (false = true) by decide)] at H;exact H
      clear H
      have H:=H1
      clear H1
      by_cases c14:(bt a0 x5_1) = 49
      ·rw [if_pos c14] at H
       have c14b0:((bt a0 x5_1) == 49) = true:=beq_iff_eq.mpr c14
       have c14b1:((bt a0 x5_1) != 49) = false:=bne_eq_false_iff_eq.mpr c14
       clear c14
       obtain rfl:=Option.some.inj H
       have p10:0 ≤ (x5_1:Int):=of_decide_eq_true (by first | (with_reducible assumption) | assumption)
       have q10:x5_1 < (a0.size:Int):=of_decide_eq_true (by first | (with_reducible assumption) | assumption)
       have hx10:=bt_at a0 x5_1
       replace p10:=eq_true p10
       replace q10:=eq_true q10
       have p13:0 ≤ (x5_1:Int):=of_decide_eq_true (by first | (with_reducible assumption) | assumption)
       have q13:x5_1 < (a0.size:Int):=of_decide_eq_true (by first | (with_reducible assumption) | assumption)
       have hx13:=bt_at a0 x5_1
       replace p13:=eq_true p13
       replace q13:=eq_true q13
       go_wp2
       go_ret
       exact ⟨by first | rfl | (simp;done) | (simp [*];done),by repeat (first | exact Drawn0.refl _ | apply Drawn0.step)⟩
      rw [if_neg c14] at H
      have c14b0:((bt a0 x5_1) == 49) = false:=beq_eq_false_iff_ne.mpr c14
      have c14b1:((bt a0 x5_1) != 49) = true:=bne_iff_ne.mpr c14
      have H':=Aside0.mk H
      clear H
      have p10:0 ≤ (x5_1:Int):=of_decide_eq_true (by first | (with_reducible assumption) | assumption)
      have q10:x5_1 < (a0.size:Int):=of_decide_eq_true (by first | (with_reducible assumption) | assumption)
      have hx10:=bt_at a0 x5_1
      replace p10:=eq_true p10
      replace q10:=eq_true q10
      have p13:0 ≤ (x5_1:Int):=of_decide_eq_true (by first | (with_reducible assumption) | assumption)
      have q13:x5_1 < (a0.size:Int):=of_decide_eq_true (by first | (with_reducible assumption) | assumption)
      have hx13:=bt_at a0 x5_1
      replace p13:=eq_true p13
      replace q13:=eq_true q13
      go_wp2
      go_roundg k2
      case measure=>have:=HK1.out;have:=HK2.out;omega
      case rel=>exact ⟨(wrap64 (x5_1 + 1)),(by first | rfl | (simp;done) | (simp [*];done)),H',⟨by have:=HK1.out;have:=HK2.out;omega⟩,by repeat (first | exact Drawn0.refl _ | apply Drawn0.step)⟩
     rw [if_neg c11] at H
     have c11b0:((bt a0 x5_1) == 48) = false:=beq_eq_false_iff_ne.mpr c11
     have c11b1:((bt a0 x5_1) != 48) = true:=bne_iff_ne.mpr c11
     by_cases c16:(bt a0 x5_1) = 49
     case neg =>
      rw [if_neg c16] at H
      have c16b0:((bt a0 x5_1) == 49) = false:=beq_eq_false_iff_ne.mpr c16
      have c16b1:((bt a0 x5_1) != 49) = true:=bne_iff_ne.mpr c16
      have H':=Aside0.mk H
      clear H
      have p10:0 ≤ (x5_1:Int):=of_decide_eq_true (by first | (with_reducible assumption) | assumption)
      have q10:x5_1 < (a0.size:Int):=of_decide_eq_true (by first | (with_reducible assumption) | assumption)
      have hx10:=bt_at a0 x5_1
      replace p10:=eq_true p10
      replace q10:=eq_true q10
      have p15:0 ≤ (x5_1:Int):=of_decide_eq_true (by first | (with_reducible assumption) | assumption)
      have q15:x5_1 < (a0.size:Int):=of_decide_eq_true (by first | (with_reducible assumption) | assumption)
      have hx15:=bt_at a0 x5_1
      replace p15:=eq_true p15
      replace q15:=eq_true q15
      go_wp2
      go_roundg k2
      case measure=>have:=HK1.out;have:=HK2.out;omega
      case rel=>exact ⟨(wrap64 (x5_1 + 1)),(by first | rfl | (simp;done) | (simp [*];done)),H',⟨by have:=HK1.out;have:=HK2.out;omega⟩,by repeat (first | exact Drawn0.refl _ | apply Drawn0.step)⟩
     rw [if_pos c16] at H
     have c16b0:((bt a0 x5_1) == 49) = true:=beq_iff_eq.mpr c16
     have c16b1:((bt a0 x5_1) != 49) = false:=bne_eq_false_iff_eq.mpr c16
     clear c16
     by_cases c17:x6_2 = true
     case neg =>
      replace c17:=Bool.eq_false_iff.mpr c17
      subst c17
      have H1:(some false) = some r:=by rw [if_neg (show ¬ (false = true) by decide)] at H;exact H
      clear H
      have H:=H1
      clear H1
      obtain rfl:=Option.some.inj H
      have p10:0 ≤ (x5_1:Int):=of_decide_eq_true (by first | (with_reducible assumption) | assumption)
      have q10:x5_1 < (a0.size:Int):=of_decide_eq_true (by first | (with_reducible assumption) | assumption)
      have hx10:=bt_at a0 x5_1
      replace p10:=eq_true p10
      replace q10:=eq_true q10
      have p15:0 ≤ (x5_1:Int):=of_decide_eq_true (by first | (with_reducible assumption) | assumption)
      have q15:x5_1 < (a0.size:Int):=of_decide_eq_true (by first | (with_reducible assumption) | assumption)
      have hx15:=bt_at a0 x5_1
      replace p15:=eq_true p15
      replace q15:=eq_true q15
      go_wp2
      go_ret
      exact ⟨by first | rfl | (simp;done) | (simp [*];done),by repeat (first | exact Drawn0.refl _ | apply Drawn0.step)⟩
     subst c17
     have H1:(numnahref01_Covers.l0 k2 a0 l1 (wrap64 (x5_1 + 1))) = some r:=by rw [if_pos rfl] at H;exact H
     clear H
     have H:=H1
     clear H1
     have H':=Aside0.mk H
     clear H
     have p10:0 ≤ (x5_1:Int):=of_decide_eq_true (by first | (with_reducible assumption) | assumption)
     have q10:x5_1 < (a0.size:Int):=of_decide_eq_true (by first | (with_reducible assumption) | assumption)
     have hx10:=bt_at a0 x5_1
     replace p10:=eq_true p10
     replace q10:=eq_true q10
     have p15:0 ≤ (x5_1:Int):=of_decide_eq_true (by first | (with_reducible assumption) | assumption)
     have q15:x5_1 < (a0.size:Int):=of_decide_eq_true (by first | (with_reducible assumption) | assumption)
     have hx15:=bt_at a0 x5_1
     replace p15:=eq_true p15
     replace q15:=eq_true q15
     go_wp2
     go_roundg k2
     case measure=>have:=HK1.out;have:=HK2.out;omega
     case rel=>exact ⟨(wrap64 (x5_1 + 1)),(by first | rfl | (simp;done) | (simp [*];done)),H',⟨by have:=HK1.out;have:=HK2.out;omega⟩,by repeat (first | exact Drawn0.refl _ | apply Drawn0.step)⟩
end Go.Proofs.Ythpahlkhiknofaa.G
set_option linter.unusedSectionVars false
namespace Go.Proofs.Ythpahlkhiknofaa.P
open Go Go.RowKit Go.Proofs.Ythpahlkhiknofaa.M Go.Proofs.Ythpahlkhiknofaa.G Go.Proofs.Ythpahlkhiknofaa.H
open Go.Proofs.YthpahlkhiknofaaW.PrintWords Go.Proofs.YthpahlkhiknofaaW.PrintMore
def cubeS (c:ByteArray):S96:=⟨(careN c c.size:Int),(valN c c.size:Int)⟩
def isCn (n:Nat) (c:ByteArray):Bool:=okC c && (c.size == n)
theorem rdS {l:List ByteArray} {i:Nat} (h:i < l.length):rdOf ByteArray.empty l (i:Int) = l[i]:=by unfold rdOf;simp [h]
def badS (s:ByteArray) (l:List ByteArray) (p:Nat):Bool:=(l.any (fun c=>inC c p) && (bt s (p:Int) == 48)) || (!l.any (fun c=>inC c p) && (bt s (p:Int) == 49))
def covS (s:ByteArray) (l:List ByteArray):Bool:=allF (fun p=>!badS s l p) s.size 0
section
variable {s:ByteArray} (hs:s.size ≤ 1000) {l:List ByteArray} (hl:l.length ≤ 1000) (hc:∀ c ∈ l,okC c = true ∧ c.size ≤ 40)
include hs hl hc
theorem rcov_l1 {p:Nat} (hp:p < s.size) {v:Bool} (hv:Ev (fun k=>numnahref01_Covers.l0 k s l ((p + 1:Nat):Int)) v):∀ d i,i + d = l.length → Ev (fun k=>numnahref01_Covers.l1 k s l (p:Int) ((l.take i).any fun c=>inC c p) (i:Int)) (!badS s l p && v):=by
  intro d
  induction d with
  | zero =>
    intro i hi
    rw [List.take_of_length_le (by omega)]
    unfold badS
    refine Ev.step (fun k=>by rw [numnahref01_Covers.l1,if_neg (by omega),if_pos (by omega),if_pos (by omega),wrap_succ (by omega)]) ?_
    cases hq:l.any (fun c=>inC c p)
    · by_cases a:bt s (p:Int) = 48
      · have b:¬ bt s (p:Int) = 49:=by omega
        rw [beq_false_of_ne b]
        refine Ev.congr (fun k=>if_pos a) (Ev.congr (fun k=>if_neg (by decide)) (Ev.congr (fun k=>if_neg b) ?_))
        simpa using hv
      · refine Ev.congr (fun k=>if_neg a) ?_
        by_cases b:bt s (p:Int) = 49
        · rw [show (bt s (p:Int) == 49) = true from beq_iff_eq.2 b]
          exact Ev.congr (fun k=>if_pos b) (Ev.congr (fun k=>if_neg (by decide)) (Ev.now _))
        · rw [beq_false_of_ne b]
          refine Ev.congr (fun k=>if_neg b) ?_
          simpa using hv
    · by_cases a:bt s (p:Int) = 48
      · rw [show (bt s (p:Int) == 48) = true from beq_iff_eq.2 a]
        exact Ev.congr (fun k=>if_pos a) (Ev.congr (fun k=>if_pos rfl) (Ev.now _))
      · rw [beq_false_of_ne a]
        refine Ev.congr (fun k=>if_neg a) ?_
        by_cases b:bt s (p:Int) = 49
        · refine Ev.congr (fun k=>if_pos b) (Ev.congr (fun k=>if_pos rfl) ?_)
          simpa using hv
        · refine Ev.congr (fun k=>if_neg b) ?_
          simpa using hv
  | succ d ih =>
    intro i hi
    have hil:i < l.length:=by omega
    have hx:=hc _ (List.getElem_mem hil)
    have ih':=ih (i + 1) (by omega)
    rw [List.take_succ_eq_append_getElem hil,List.any_append] at ih'
    cases hq:(l.take i).any (fun c=>inC c p) with
    | true =>
      rw [hq] at ih'
      refine Ev.step (fun k=>?_) ih'
      rw [numnahref01_Covers.l1,if_pos (by omega),if_pos rfl,wrap_succ (by omega)]
      rfl
    | false =>
      rw [hq,Bool.false_or] at ih'
      simp only [List.any_cons,List.any_nil,Bool.or_false] at ih'
      refine Ev.step (fun k=>by rw [numnahref01_Covers.l1,if_pos (by omega),if_neg (by decide),if_pos (by omega),rdS hil,wrap_succ (by omega)]) (Ev.bind (ev_contains hx.2 hx.1 p) ih')
theorem rcov_l0:∀ d p,p + d = s.size → Ev (fun k=>numnahref01_Covers.l0 k s l (p:Int)) (allF (fun p=>!badS s l p) d p):=by
  intro d
  induction d with
  | zero =>
    intro p hp
    refine Ev.step (f:=fun _=>some true) (fun k=>?_) (Ev.now _)
    rw [numnahref01_Covers.l0,if_neg (by omega)]
  | succ d ih =>
    intro p hp
    have:=rcov_l1 hs hl hc (p:=p) (by omega) (ih (p + 1) (by omega)) l.length 0 (by omega)
    refine Ev.step (fun k=>?_) this
    rw [numnahref01_Covers.l0,if_pos (by omega)];rfl
theorem ev_rcov:Ev (fun k=>numnahref01_Covers.f k s l) (covS s l):=rcov_l0 hs hl hc s.size 0 (by omega)
end
end Go.Proofs.Ythpahlkhiknofaa.P
set_option linter.unusedSectionVars false
namespace Go.Proofs.Ythpahlkhiknofaa.P
open Go Go.RowKit Go.Proofs.Ythpahlkhiknofaa.M Go.Proofs.Ythpahlkhiknofaa.G Go.Proofs.Ythpahlkhiknofaa.H
open Go.Proofs.YthpahlkhiknofaaW.PrintWords Go.Proofs.YthpahlkhiknofaaW.PrintMore
/-- The values are values of variables that count. -/
def SubV (c v:Nat):Prop:=∀ i,v.testBit i = true → c.testBit i = true
theorem has_bits {c v p:Nat} (h:SubV c v):hasN c v p = true ↔ ∀ i,c.testBit i = true → p.testBit i = v.testBit i:=by
  unfold hasN
  rw [beq_iff_eq]
  constructor
  · intro e i hc
    have:=congrArg (fun x=>x.testBit i) e
    simp only [Nat.testBit_and,hc,Bool.and_true] at this
    exact this
  · intro hb
    apply Nat.eq_of_testBit_eq
    intro i
    rw [Nat.testBit_and]
    cases hc:c.testBit i with
    | true=>rw [hb i hc,Bool.and_true]
    | false =>
      rw [Bool.and_false]
      cases hv:v.testBit i with
      | true=>rw [h i hv] at hc;cases hc
      | false=>rfl
/-- A cube is inside of another one. -/
def InN (c v c' v':Nat):Prop:=∀ i,c'.testBit i = true → c.testBit i = true ∧ v'.testBit i = v.testBit i
theorem in_has {c v c' v' p:Nat} (h:SubV c v) (h':SubV c' v') (hi:InN c v c' v') (hp:hasN c v p = true):hasN c' v' p = true:=by
  rw [has_bits h] at hp
  rw [has_bits h']
  intro i hc
  obtain ⟨a,b⟩:=hi i hc
  rw [hp i a,b]
theorem in_trans {a b c d e f:Nat} (h1:InN a b c d) (h2:InN c d e f):InN a b e f:=fun i hi=>by
  obtain ⟨x,y⟩:=h2 i hi
  obtain ⟨z,w⟩:=h1 i x
  exact ⟨z,y.trans w⟩
theorem in_refl (c v:Nat):InN c v c v:=fun _ h=>⟨h,rfl⟩
theorem imp_iff {s:ByteArray} {c v:Nat}:impN s c v = true ↔ (∃ p,p < s.size ∧ hasN c v p = true ∧ bt s (p:Int) = 49) ∧ ∀ p,p < s.size → hasN c v p = true → bt s (p:Int) ≠ 48:=by
  unfold impN noneN fitsN
  rw [Bool.and_eq_true,Bool.not_eq_true',allF_iff]
  constructor
  · rintro ⟨h1,h2⟩
    refine ⟨?_,fun p hp hh=>?_⟩
    · apply Classical.byContradiction
      intro hn
      have:allF (fun p=>!(hasN c v p && (bt s (p:Int) == 49))) s.size 0 = true:=(allF_iff _ _ _).2 fun p _ hp=>by
        cases hh:hasN c v p with
        | false=>rfl
        | true =>
          by_cases h9:bt s (p:Int) = 49
          · exact absurd ⟨p,by omega,hh,h9⟩ hn
          · rw [beq_false_of_ne h9];rfl
      rw [h1] at this;cases this
    · have:=h2 p (by omega) (by omega)
      rw [hh,Bool.true_and,Bool.not_eq_true',beq_eq_false_iff_ne] at this
      exact this
  · rintro ⟨⟨p,hp,hh,h9⟩,h2⟩
    refine ⟨?_,fun q _ hq=>?_⟩
    · cases ha:allF (fun p=>!(hasN c v p && (bt s (p:Int) == 49))) s.size 0 with
      | false=>rfl
      | true =>
        have:=(allF_iff _ _ _).1 ha p (by omega) (by omega)
        rw [hh,h9] at this
        cases this
    · cases hh2:hasN c v q with
      | false=>rfl
      | true =>
        rw [Bool.true_and,Bool.not_eq_true',beq_eq_false_iff_ne]
        exact h2 q (by omega) hh2
theorem prime_iff {s:ByteArray} {n c v:Nat}:primeN s n c v = true ↔ (∀ i,i < n → c.testBit i = true → impN s (andNot c (2 ^ i)) (andNot v (2 ^ i)) = false) ∧ impN s c v = true:=by
  unfold primeN
  rw [Bool.and_eq_true,allF_iff]
  constructor
  · rintro ⟨h1,h2⟩
    refine ⟨fun i hi hc=>?_,h2⟩
    have:=h1 i (by omega) (by omega)
    rw [hc,Bool.true_and,Bool.not_eq_true'] at this
    exact this
  · rintro ⟨h1,h2⟩
    refine ⟨fun i _ hi=>?_,h2⟩
    cases hc:c.testBit i with
    | false=>rfl
    | true=>rw [h1 i (by omega) hc];rfl
theorem cut_testBit (c i j:Nat):(andNot c (2 ^ i)).testBit j = (c.testBit j && !decide (i = j)):=by
  rw [testBit_andNot,Nat.testBit_two_pow]
theorem sub_cut {c v:Nat} (h:SubV c v) (i:Nat):SubV (andNot c (2 ^ i)) (andNot v (2 ^ i)):=fun j hj=>by
  rw [cut_testBit,Bool.and_eq_true] at hj ⊢
  exact ⟨h j hj.1,hj.2⟩
theorem in_cut (c v i:Nat):InN c v (andNot c (2 ^ i)) (andNot v (2 ^ i)):=fun j hj=>by
  rw [cut_testBit,Bool.and_eq_true] at hj
  refine ⟨hj.1,?_⟩
  rw [cut_testBit,hj.2,Bool.and_true]
theorem cut_less {c i:Nat} (h:c.testBit i = true):andNot c (2 ^ i) < c:=by
  have h1:andNot c (2 ^ i) ≤ c:=by
    have:andNot c (2 ^ i) &&& c = andNot c (2 ^ i):=Nat.eq_of_testBit_eq fun j=>by
      rw [Nat.testBit_and,cut_testBit]
      cases c.testBit j <;> simp
    rw [← this]
    exact Nat.and_le_right
  rcases Nat.lt_or_ge (andNot c (2 ^ i)) c with h2 | h2
  · exact h2
  · have e:andNot c (2 ^ i) = c:=Nat.le_antisymm h1 h2
    have:=cut_testBit c i i
    rw [e,h] at this
    simp at this
/-- Each implicant is inside of a prime. -/
theorem prime_over {s:ByteArray} {n:Nat}:∀ c v,SubV c v → impN s c v = true → ∃ c' v',SubV c' v' ∧ c' ≤ c ∧ InN c v c' v' ∧ primeN s n c' v' = true:=by
  intro c
  induction c using Nat.strongRecOn with
  | ind c ih =>
    intro v hv hi
    by_cases hp:primeN s n c v = true
    · exact ⟨c,v,hv,Nat.le_refl _,in_refl c v,hp⟩
    · have:¬ ∀ i,i < n → c.testBit i = true → impN s (andNot c (2 ^ i)) (andNot v (2 ^ i)) = false:=fun h=>hp (prime_iff.2 ⟨h,hi⟩)
      obtain ⟨i,h⟩:=Classical.not_forall.1 this
      obtain ⟨_,h⟩:=Classical.not_imp.1 h
      obtain ⟨hc,h⟩:=Classical.not_imp.1 h
      have h2:impN s (andNot c (2 ^ i)) (andNot v (2 ^ i)) = true:=by simpa using h
      obtain ⟨c',v',a,b,d,e⟩:=ih _ (cut_less hc) _ (sub_cut hv i) h2
      exact ⟨c',v',a,Nat.le_trans b (Nat.le_of_lt (cut_less hc)),in_trans (in_cut c v i) d,e⟩
/-- No prime is inside of another one. -/
theorem prime_apart {s:ByteArray} {n c v c' v':Nat} (hc:c < 2 ^ n) (hv:SubV c v) (hv':SubV c' v') (hp:primeN s n c v = true) (hp':primeN s n c' v' = true) (hi:InN c v c' v'):c = c' ∧ v = v':=by
  have hcc:c = c':=by
    apply Nat.eq_of_testBit_eq
    intro j
    cases h1:c'.testBit j with
    | true=>exact (hi j h1).1
    | false =>
      cases h2:c.testBit j with
      | false=>rfl
      | true =>
        exfalso
        have hj:j < n:=by
          rcases Nat.lt_or_ge j n with h | h
          · exact h
          · rw [Nat.testBit_lt_two_pow (Nat.lt_of_lt_of_le hc (Nat.pow_le_pow_right (by decide) h))] at h2;cases h2
        have hn:=(prime_iff.1 hp).1 j hj h2
        have hin:InN (andNot c (2 ^ j)) (andNot v (2 ^ j)) c' v':=fun i hic=>by
          obtain ⟨a,b⟩:=hi i hic
          have hne:decide (j = i) = false:=decide_eq_false (fun e=>by subst e;rw [h1] at hic;cases hic)
          rw [cut_testBit,cut_testBit,hne,a,b];simp
        have:impN s (andNot c (2 ^ j)) (andNot v (2 ^ j)) = true:=by
          obtain ⟨⟨p,hps,hh,h9⟩,_⟩:=imp_iff.1 (prime_iff.1 hp).2
          obtain ⟨_,hz⟩:=imp_iff.1 (prime_iff.1 hp').2
          exact imp_iff.2 ⟨⟨p,hps,in_has hv (sub_cut hv j) (in_cut c v j) hh,h9⟩,fun q hq hh2=>hz q hq (in_has (sub_cut hv j) hv' hin hh2)⟩
        rw [hn] at this
        cases this
  subst hcc
  refine ⟨rfl,Nat.eq_of_testBit_eq fun j=>?_⟩
  cases h1:c.testBit j with
  | true=>exact (hi j h1).2.symm
  | false =>
    have z:∀ u,SubV c u → u.testBit j = false:=fun u hu=>by
      cases h:u.testBit j with
      | false=>rfl
      | true=>rw [hu j h] at h1;cases h1
    rw [z v hv,z v' hv']
/-- A point with the value 1 is in a prime. -/
theorem prime_point {s:ByteArray} {n p:Nat} (hs:s.size = 2 ^ n) (hp:p < s.size) (h1:bt s (p:Int) = 49):∃ c v,SubV c v ∧ c < 2 ^ n ∧ primeN s n c v = true ∧ hasN c v p = true:=by
  have hsub:SubV (2 ^ n - 1) p:=fun i hi=>by
    rw [Nat.testBit_two_pow_sub_one]
    rcases Nat.lt_or_ge i n with h | h
    · exact decide_eq_true h
    · rw [Nat.testBit_lt_two_pow (Nat.lt_of_lt_of_le (hs ▸ hp) (Nat.pow_le_pow_right (by decide) h))] at hi;cases hi
  have hself:hasN (2 ^ n - 1) p p = true:=(has_bits hsub).2 fun _ _=>rfl
  have hone:∀ q,q < s.size → hasN (2 ^ n - 1) p q = true → q = p:=fun q hq hh=>by
    rw [has_bits hsub] at hh
    apply Nat.eq_of_testBit_eq
    intro i
    rcases Nat.lt_or_ge i n with h | h
    · exact hh i (by rw [Nat.testBit_two_pow_sub_one];exact decide_eq_true h)
    · rw [Nat.testBit_lt_two_pow (Nat.lt_of_lt_of_le (hs ▸ hq) (Nat.pow_le_pow_right (by decide) h)),Nat.testBit_lt_two_pow (Nat.lt_of_lt_of_le (hs ▸ hp) (Nat.pow_le_pow_right (by decide) h))]
  have himp:impN s (2 ^ n - 1) p = true:=imp_iff.2 ⟨⟨p,hp,hself,h1⟩,fun q hq hh=>by rw [hone q hq hh,h1];decide⟩
  obtain ⟨c,v,a,b,d,e⟩:=prime_over (n:=n) _ _ hsub himp
  have:=Nat.two_pow_pos n
  exact ⟨c,v,a,by omega,e,in_has hsub a d hself⟩
end Go.Proofs.Ythpahlkhiknofaa.P
set_option linter.unusedSectionVars false
namespace Go.Proofs.Ythpahlkhiknofaa.P
open Go Go.RowKit Go.Proofs.Ythpahlkhiknofaa.M Go.Proofs.Ythpahlkhiknofaa.G
open Go.Proofs.YthpahlkhiknofaaW.PrintWords Go.Proofs.YthpahlkhiknofaaW.PrintMore
theorem str_size (xs:List Int):(strOfNums xs).size = xs.length:=by
  unfold strOfNums
  show (xs.map fun n=>UInt8.ofNat n.toNat).toArray.size = xs.length
  simp
theorem str_bt {xs:List Int} {i:Nat} (h:i < xs.length) (h0:0 ≤ xs[i]) (h1:xs[i] < 256):bt (strOfNums xs) (i:Int) = xs[i]:=by
  have hs:i < (strOfNums xs).size:=by rw [str_size];exact h
  rw [bt_get hs]
  have e:(strOfNums xs)[i] = UInt8.ofNat xs[i].toNat:=by
    show (xs.map fun n=>UInt8.ofNat n.toNat).toArray[i]'(by simpa using h) = _
    simp
  rw [e,UInt8.toNat_ofNat_of_lt' (by show xs[i].toNat < 256;omega)]
  omega
end Go.Proofs.Ythpahlkhiknofaa.P
set_option linter.unusedSectionVars false
namespace Go.Proofs.Ythpahlkhiknofaa.G
open Go.RowKit Go.Proofs.YthpahlkhiknofaaW.PrintWords Go.Proofs.YthpahlkhiknofaaW.PrintLast Go.Proofs.YthpahlkhiknofaaW.PrintMore
set_option maxHeartbeats 8000000
set_option maxRecDepth 100000
attribute [local go_sem] max2_int min2_int max_two min_two max_three min_three max_four min_four   -- for this text's walks alone
def numnahlaw01_mod.f (a0:Int) (a1:Int):Option (Int):=if (IntKind.u64.wrap (a1)) = 0 then (none) else (some (wrap64 (Int.tmod (IntKind.u64.wrap (a0)) (IntKind.u64.wrap (a1)))))
theorem numnahlaw01_mod.calls (a0:Int) (a1:Int) (r:Int) (w:World) (h:numnahlaw01_mod.f a0 a1 = some r) :
  Calls Try.prog 27 #[.int .i64 a0,.int .i64 a1] w fun e w'=>e = .returned (.int .i64 r) ∧ Drawn0 w w':=by
 have H:(if (IntKind.u64.wrap (a1)) = 0 then (none) else (some (wrap64 (Int.tmod (IntKind.u64.wrap (a0)) (IntKind.u64.wrap (a1)))))) = some r:=h
 clear h
 by_cases c3:(IntKind.u64.wrap (a1)) = 0
 ·rw [if_pos c3] at H
  exact absurd H (by simp)
 rw [if_neg c3] at H
 have c3b0:((IntKind.u64.wrap (a1)) == 0) = false:=beq_eq_false_iff_ne.mpr c3
 have c3b1:((IntKind.u64.wrap (a1)) != 0) = true:=bne_iff_ne.mpr c3
 obtain rfl:=Option.some.inj H
 go_enter Try.func27,Try.ntmps27
 go_wp2
 go_ret
 exact ⟨by first | rfl | (simp;done) | (simp [*];done),by repeat (first | exact Drawn0.refl _ | apply Drawn0.step)⟩
def numnahlaw01_function.l0:Nat → ByteArray → Int → Int → List Int → Int → Option (ByteArray)
 | 0,_,_,_,_,_=>none
 | k + 1,x0,x1,x2,x7,x8=>if 0 ≤ x1 then (if x8 < (shl .i64 1 x1) then (if x8 < (x0.size:Int) then (if 0 ≤ x8 then (if x2 = 0 then (none) else (if 0 ≤ (Int.tmod (wrap64 (bt x0 x8)) x2) then (if (Int.tmod (wrap64 (bt x0 x8)) x2) < 3 then (if x7.length < 140737488355328 then (numnahlaw01_function.l0 k x0 x1 x2 (x7 ++ [bt (⟨#[48,49,45]⟩:ByteArray) (Int.tmod (wrap64 (bt x0 x8)) x2)]) (wrap64 (x8 + 1))) else (none)) else (none)) else (none))) else (none)) else (if 0 < 3 then (if x7.length < 140737488355328 then (numnahlaw01_function.l0 k x0 x1 x2 (x7 ++ [bt (⟨#[48,49,45]⟩:ByteArray) 0]) (wrap64 (x8 + 1))) else (none)) else (none))) else (some (strOfNums x7))) else (none)
def numnahlaw01_function.f (k:Nat) (a0:ByteArray) (a1:Int) (a2:Int):Option (ByteArray):=numnahlaw01_function.l0 k a0 a1 a2 ([]:List Int) 0
theorem numnahlaw01_function.mono_l:∀ k,(∀ y0 y1 y2 y3 y4,LeO (numnahlaw01_function.l0 k y0 y1 y2 y3 y4) (numnahlaw01_function.l0 (k + 1) y0 y1 y2 y3 y4))
 | 0=>fun _ _ _ _ _ r h=>by simp [numnahlaw01_function.l0] at h
 | k + 1=>by
  have ih0:=numnahlaw01_function.mono_l k
  intro y0 y1 y2 y3 y4
  unfold numnahlaw01_function.l0
  repeat' first
  | (with_reducible exact ih0 _ _ _ _ _)
  | (with_reducible exact LeO.refl _)
  | (with_reducible exact LeO.none _)
  | (with_reducible refine LeO.ite ?_ ?_)
  | (with_reducible refine LeO.bind ?_ (fun _=>?_))
  | exact ih0 _ _ _ _ _
  | exact LeO.none _
  | refine LeO.ite ?_ ?_
  | refine LeO.bind ?_ (fun _=>?_)
theorem numnahlaw01_function.mono:∀ a0 a1 a2 k,LeO (numnahlaw01_function.f k a0 a1 a2) (numnahlaw01_function.f (k + 1) a0 a1 a2):=by
 intro a0 a1 a2 k
 have ih0:=numnahlaw01_function.mono_l k
 unfold numnahlaw01_function.f
 repeat' first
   | (with_reducible exact ih0 _ _ _ _ _)
   | (with_reducible exact LeO.refl _)
   | (with_reducible exact LeO.none _)
   | (with_reducible refine LeO.ite ?_ ?_)
   | (with_reducible refine LeO.bind ?_ (fun _=>?_))
   | exact ih0 _ _ _ _ _
   | exact LeO.none _
   | refine LeO.ite ?_ ?_
   | refine LeO.bind ?_ (fun _=>?_)
theorem numnahlaw01_function.calls (k:Nat) (a0:ByteArray) (a1:Int) (a2:Int) (r:ByteArray) (w:World) (h:numnahlaw01_function.f k a0 a1 a2 = some r) :
  Calls Try.prog 28 #[.string a0,.int .i64 a1,.int .i64 a2] w fun e w'=>e = .returned (.string r) ∧ Below w.heap.size w w':=by
 have HB:=Aside0.mk (Below.refl w.heap.size w)
 have H:(numnahlaw01_function.l0 k a0 a1 a2 ([]:List Int) 0) = some r:=h
 clear h
 have H':=Aside0.mk H
 clear H
 go_enter Try.func28,Try.ntmps28
 go_wp2
 go_loopg [7,8] k (fun kq v7 v8 w'=>∃ (x7_1:List Int) (x8_1:Int),v8 = .int .i64 x8_1 ∧ Aside0 (numnahlaw01_function.l0 kq a0 a1 a2 x7_1 x8_1 = some r) ∧ Aside0 (kq ≤ k) ∧ Aside0 (Kd.R (Kd.int .u8) 5 w' w.heap.size (fun _=>True) v7 x7_1) ∧ Aside0 (Below w.heap.size w w'))
 case atStart=>exact ⟨(([]:List Int)),(0),(by first | rfl | (simp;done) | (simp [*];done)),H',⟨Nat.le_refl _⟩,⟨by first | exact Kd.R_nil _ _ _ _ _ | exact Kd.N_nil _ _ _ _ _ | exact Kd.V_nil _ _ _ _ _ | exact Kd.Q_nil _ _ _ _ _ | exact Kd.S_nil _ _ _ _ _⟩,⟨by repeat (first | (with_reducible first | exact HB.out | apply below_alloc | apply pw_below_drewN | apply below_drew1) | exact HB.out)⟩⟩
 case round =>
  clear H'
  try clear c2
  try clear p2
  obtain ⟨x7_1,x8_1,rfl,HA,HK1,HO_7,HB⟩:=hrel
  cases gk with
  | zero=>exact absurd HA.out (by simp [numnahlaw01_function.l0])
  | succ k1 =>
   have H:=HA.out
   clear HA
   simp only [numnahlaw01_function.l0] at H
   by_cases c4:0 ≤ a1
   case neg =>
    rw [if_neg c4] at H
    exact absurd H (by simp)
   rw [if_pos c4] at H
   have c4b0:=eq_true c4
   have c4b1:decide (0 ≤ a1) = true:=decide_eq_true c4
   clear c4
   obtain ⟨ji5,hji5⟩:∃ j_:Int,(shl .i64 1 a1) = j_:=⟨_,rfl⟩
   replace H:(if x8_1 < (ji5) then (if x8_1 < (a0.size:Int) then (if 0 ≤ x8_1 then (if a2 = 0 then (none) else (if 0 ≤ (Int.tmod (wrap64 (bt a0 x8_1)) a2) then (if (Int.tmod (wrap64 (bt a0 x8_1)) a2) < 3 then (if x7_1.length < 140737488355328 then (numnahlaw01_function.l0 k1 a0 a1 a2 (x7_1 ++ [bt (⟨#[48,49,45]⟩:ByteArray) (Int.tmod (wrap64 (bt a0 x8_1)) a2)]) (wrap64 (x8_1 + 1))) else (none)) else (none)) else (none))) else (none)) else (if 0 < 3 then (if x7_1.length < 140737488355328 then (numnahlaw01_function.l0 k1 a0 a1 a2 (x7_1 ++ [bt (⟨#[48,49,45]⟩:ByteArray) 0]) (wrap64 (x8_1 + 1))) else (none)) else (none))) else (some (strOfNums x7_1))) = some r:=by first | (rw [hji5] at H;exact H) | (simp only [hji5] at H ⊢;exact H)
   have hji5_:(IntKind.i64.wrap (1 * 2 ^ min a1.toNat 64)) = ji5:=hji5
   have hji5z:a1 ≤ 64 → (IntKind.i64.wrap (1 * 2 ^ a1.toNat)) = ji5:=shl_small hji5
   have hji5u:(IntKind.i64.wrap (2 ^ min a1.toNat 64)) = ji5:=by have h_:=hji5_;rw [Int.one_mul] at h_;exact h_
   have hji5v:a1 ≤ 64 → (IntKind.i64.wrap (2 ^ a1.toNat)) = ji5:=fun hle_=>by have h_:=hji5z hle_;rw [Int.one_mul] at h_;exact h_
   have hji5y:(wrap64 (1 * 2 ^ min a1.toNat 64)) = ji5:=(i64_w _).symm.trans hji5_
   have hji5x:a1 ≤ 64 → (wrap64 (1 * 2 ^ a1.toNat)) = ji5:=fun h_=>(i64_w _).symm.trans (hji5z h_)
   by_cases c6:x8_1 < (ji5)
   case neg =>
    rw [if_neg c6] at H
    have c6b0:decide (x8_1 < (ji5)) = false:=decide_eq_false c6
    clear c6
    obtain rfl:=Option.some.inj H
    have hcv21:=own_string (P:=Try.prog) Try.underlying42 Try.underlying5 Try.underlying9 (Kd.own_of_R HO_7.out)
    go_wp2
    go_ret
    exact ⟨by first | rfl | (simp [errW_none,errW_some] <;> rfl) | (simp only [← hji5];first | rfl | (simp [errW_none,errW_some] <;> rfl)) | (simp [*,errW_none,errW_some] <;> rfl),by repeat (first | (with_reducible first | exact HB.out | apply below_alloc | apply pw_below_drewN | apply below_drew1) | exact HB.out)⟩
   rw [if_pos c6] at H
   have c6b0:decide (x8_1 < (ji5)) = true:=decide_eq_true c6
   clear c6
   by_cases c7:x8_1 < (a0.size:Int)
   case neg =>
    rw [if_neg c7] at H
    have c7b0:decide (x8_1 < (a0.size:Int)) = false:=decide_eq_false c7
    clear c7
    by_cases c17:0 < 3
    case neg =>
     rw [if_neg c17] at H
     exact absurd H (by simp)
    rw [if_pos c17] at H
    have c17b0:decide (0 < 3) = true:=decide_eq_true c17
    clear c17
    by_cases c19:x7_1.length < 140737488355328
    case neg =>
     rw [if_neg c19] at H
     exact absurd H (by simp)
    rw [if_pos c19] at H
    have LMc19:=Aside0.mk c19
    clear c19
    obtain ⟨y219,hy219⟩:∃ y_:List Int,y_ = (x7_1 ++ [bt (⟨#[48,49,45]⟩:ByteArray) 0]):=⟨_,rfl⟩
    replace H:(numnahlaw01_function.l0 k1 a0 a1 a2 y219 (wrap64 (x8_1 + 1))) = some r:=by first | (rw [hy219];with_reducible exact H) | (have H2_:=(Option.bind_some _ _).symm.trans H;rw [hy219];with_reducible exact H2_) | (have H2_:=(Option.bind_some _ _).symm.trans H;with_reducible exact H2_) | with_reducible exact H | (rw [hy219];exact H) | exact H
    have Ny219:=Aside0.mk hy219
    clear hy219
    have H':=Aside0.mk H
    clear H
    have p18:0 ≤ (0:Int):=(by omega)
    have q18:0 < (3:Int):=(by omega)
    have hx18:=bt_at (⟨#[48,49,45]⟩:ByteArray) 0
    replace p18:=eq_true p18
    replace q18:=eq_true q18
    go_wp2_with (first | ((with_reducible refine gate_builtin (b:=.append) (xs:=#[.tmp 26,.tmp 29]) rfl ?_);at_builtin;refine Kd.R_append (Kd.int .u8) (w0:=w) w.heap.size rfl (.tmp 26) (.tmp 29) 42 5 (.int .u8 0) 1 rfl Try.underlying42 info5 rfl (by decide) (by omega) u7 x7_1 (bt (⟨#[48,49,45]⟩:ByteArray) 0) [.int .u8 (bt (⟨#[48,49,45]⟩:ByteArray) 0)] (fun _=>True) (fun _=>False) rfl rfl ?aP (fun _ hk=>hk.elim) ?aF ?aO ?aB ?aS ?aL ?_;(case aP=>exact rfl);(case aB=>exact (by repeat (first | (with_reducible first | exact HB.out | apply below_alloc | apply pw_below_drewN | apply below_drew1) | exact HB.out)));(case aF=>exact (fun _ _=>trivial));(case aO=>exact (by (with_reducible repeat (first | apply Kd.R_alloc | apply Kd.R_drewN | apply Kd.R_drew));exact HO_7.out));(case aS=>exact (below_size (by repeat (first | (with_reducible first | exact HB.out | apply below_alloc | apply pw_below_drewN | apply below_drew1) | exact HB.out))));(case aL=>have:=LMc19.out;omega);intro v220 w20 ho hb hg hat;rw [← Ny219.out] at ho;have n0_:=Aside0.mk (hb);have n1_:=Aside0.mk (ho);clear HB;clear HO_7;have HB:=n0_;have HO221:=n1_;clear n0_ n1_;clear ho hb hg hat))
    go_roundg k1
    case measure=>have:=HK1.out;omega
    case rel=>exact ⟨(y219),(wrap64 (x8_1 + 1)),(by first | rfl | (simp;done) | (simp [*];done)),H',⟨by have:=HK1.out;omega⟩,⟨by (with_reducible repeat (first | apply Kd.R_alloc | apply Kd.R_drewN | apply Kd.R_drew));exact HO221.out⟩,⟨by repeat (first | (with_reducible first | exact HB.out | apply below_alloc | apply pw_below_drewN | apply below_drew1) | exact HB.out)⟩⟩
   rw [if_pos c7] at H
   have c7b0:decide (x8_1 < (a0.size:Int)) = true:=decide_eq_true c7
   clear c7
   by_cases c8:0 ≤ x8_1
   case neg =>
    rw [if_neg c8] at H
    exact absurd H (by simp)
   rw [if_pos c8] at H
   have c8b0:decide (0 ≤ x8_1) = true:=decide_eq_true c8
   clear c8
   by_cases c10:a2 = 0
   ·rw [if_pos c10] at H
    exact absurd H (by simp)
   rw [if_neg c10] at H
   have c10b0:(a2 == 0) = false:=beq_eq_false_iff_ne.mpr c10
   have c10b1:(a2 != 0) = true:=bne_iff_ne.mpr c10
   obtain ⟨ji11,hji11⟩:∃ j_:Int,(Int.tmod (wrap64 (bt a0 x8_1)) a2) = j_:=⟨_,rfl⟩
   replace H:(if 0 ≤ (ji11) then (if (ji11) < 3 then (if x7_1.length < 140737488355328 then (numnahlaw01_function.l0 k1 a0 a1 a2 (x7_1 ++ [bt (⟨#[48,49,45]⟩:ByteArray) (ji11)]) (wrap64 (x8_1 + 1))) else (none)) else (none)) else (none)) = some r:=by first | (rw [hji11] at H;exact H) | (simp only [hji11] at H ⊢;exact H)
   by_cases c12:0 ≤ (ji11)
   case neg =>
    rw [if_neg c12] at H
    exact absurd H (by simp)
   rw [if_pos c12] at H
   have c12b0:decide (0 ≤ (ji11)) = true:=decide_eq_true c12
   clear c12
   by_cases c13:(ji11) < 3
   case neg =>
    rw [if_neg c13] at H
    exact absurd H (by simp)
   rw [if_pos c13] at H
   have c13b0:decide ((ji11) < 3) = true:=decide_eq_true c13
   clear c13
   by_cases c15:x7_1.length < 140737488355328
   case neg =>
    rw [if_neg c15] at H
    exact absurd H (by simp)
   rw [if_pos c15] at H
   have LMc15:=Aside0.mk c15
   clear c15
   obtain ⟨y216,hy216⟩:∃ y_:List Int,y_ = (x7_1 ++ [bt (⟨#[48,49,45]⟩:ByteArray) (ji11)]):=⟨_,rfl⟩
   replace H:(numnahlaw01_function.l0 k1 a0 a1 a2 y216 (wrap64 (x8_1 + 1))) = some r:=by first | (rw [hy216];with_reducible exact H) | (have H2_:=(Option.bind_some _ _).symm.trans H;rw [hy216];with_reducible exact H2_) | (have H2_:=(Option.bind_some _ _).symm.trans H;with_reducible exact H2_) | with_reducible exact H | (rw [hy216];exact H) | exact H
   have Ny216:=Aside0.mk hy216
   clear hy216
   have H':=Aside0.mk H
   clear H
   have p9:0 ≤ (x8_1:Int):=of_decide_eq_true (by first | (with_reducible assumption) | assumption)
   have q9:x8_1 < (a0.size:Int):=of_decide_eq_true (by first | (with_reducible assumption) | assumption)
   have hx9:=bt_at a0 x8_1
   replace p9:=eq_true p9
   replace q9:=eq_true q9
   have p14:0 ≤ ((ji11):Int):=of_decide_eq_true (by first | (with_reducible assumption) | assumption)
   have q14:(ji11) < (3:Int):=of_decide_eq_true (by first | (with_reducible assumption) | assumption)
   have hx14:=bt_at (⟨#[48,49,45]⟩:ByteArray) (ji11)
   replace p14:=eq_true p14
   replace q14:=eq_true q14
   go_wp2_with (first | ((with_reducible refine gate_builtin (b:=.append) (xs:=#[.tmp 26,.tmp 29]) rfl ?_);at_builtin;refine Kd.R_append (Kd.int .u8) (w0:=w) w.heap.size rfl (.tmp 26) (.tmp 29) 42 5 (.int .u8 0) 1 rfl Try.underlying42 info5 rfl (by decide) (by omega) u7 x7_1 (bt (⟨#[48,49,45]⟩:ByteArray) (ji11)) [.int .u8 (bt (⟨#[48,49,45]⟩:ByteArray) (ji11))] (fun _=>True) (fun _=>False) rfl rfl ?aP (fun _ hk=>hk.elim) ?aF ?aO ?aB ?aS ?aL ?_;(case aP=>exact rfl);(case aB=>exact (by repeat (first | (with_reducible first | exact HB.out | apply below_alloc | apply pw_below_drewN | apply below_drew1) | exact HB.out)));(case aF=>exact (fun _ _=>trivial));(case aO=>exact (by (with_reducible repeat (first | apply Kd.R_alloc | apply Kd.R_drewN | apply Kd.R_drew));exact HO_7.out));(case aS=>exact (below_size (by repeat (first | (with_reducible first | exact HB.out | apply below_alloc | apply pw_below_drewN | apply below_drew1) | exact HB.out))));(case aL=>have:=LMc15.out;omega);intro v217 w16 ho hb hg hat;rw [← Ny216.out] at ho;have n0_:=Aside0.mk (hb);have n1_:=Aside0.mk (ho);clear HB;clear HO_7;have HB:=n0_;have HO218:=n1_;clear n0_ n1_;clear ho hb hg hat))
   go_roundg k1
   case measure=>have:=HK1.out;omega
   case rel=>exact ⟨(y216),(wrap64 (x8_1 + 1)),(by first | rfl | (simp;done) | (simp [*];done)),H',⟨by have:=HK1.out;omega⟩,⟨by (with_reducible repeat (first | apply Kd.R_alloc | apply Kd.R_drewN | apply Kd.R_drew));exact HO218.out⟩,⟨by repeat (first | (with_reducible first | exact HB.out | apply below_alloc | apply pw_below_drewN | apply below_drew1) | exact HB.out)⟩⟩
end Go.Proofs.Ythpahlkhiknofaa.G
set_option linter.unusedSectionVars false
namespace Go.Proofs.Ythpahlkhiknofaa.P
open Go Go.RowKit Go.Proofs.Ythpahlkhiknofaa.M Go.Proofs.Ythpahlkhiknofaa.G
open Go.Proofs.YthpahlkhiknofaaW.PrintWords Go.Proofs.YthpahlkhiknofaaW.PrintMore
theorem mod_some (x:Int) {n:Int} (h0:0 < n) (h1:n ≤ 9223372036854775807):∃ m,0 ≤ m ∧ m < n ∧ numnahlaw01_mod.f x n = some m:=by
  unfold numnahlaw01_mod.f
  have hn:IntKind.u64.wrap n = n:=by
    obtain ⟨k,rfl⟩:∃ k:Nat,n = (k:Int):=⟨n.toNat,by omega⟩
    exact wrap_u64_nat k (by omega)
  have hx:0 ≤ IntKind.u64.wrap x:=by
    simp only [IntKind.wrap,IntKind.bits,IntKind.signed]
    simp
    omega
  rw [hn,if_neg (by omega),Int.tmod_eq_emod_of_nonneg hx]
  have:=Int.emod_nonneg (IntKind.u64.wrap x) (show n ≠ 0 by omega)
  have:=Int.emod_lt_of_pos (IntKind.u64.wrap x) h0
  exact ⟨_,by omega,by omega,by rw [wrap_id (by omega) (by omega)]⟩
theorem bytes01:bt (⟨#[48,49,45]⟩:ByteArray) 0 = 48 ∧ bt (⟨#[48,49,45]⟩:ByteArray) 1 = 49:=by constructor <;> decide +kernel
theorem lg_pow {n:Nat} (h1:1 ≤ n) (h5:n ≤ 5):lg (2 ^ n) = n:=by
  rcases (by omega:n = 1 ∨ n = 2 ∨ n = 3 ∨ n = 4 ∨ n = 5) with rfl | rfl | rfl | rfl | rfl <;> decide
end Go.Proofs.Ythpahlkhiknofaa.P
namespace Go.Proofs.Ythpahlkhiknofaa.G
open Go.RowKit Go.Proofs.YthpahlkhiknofaaW.PrintWords Go.Proofs.YthpahlkhiknofaaW.PrintLast Go.Proofs.YthpahlkhiknofaaW.PrintMore
set_option maxHeartbeats 8000000
set_option maxRecDepth 100000
attribute [local go_sem] max2_int min2_int max_two min_two max_three min_three max_four min_four   -- for this text's walks alone
def card_function_texts.l0:Nat → List ByteArray → List (S96) → Int → Int → Int → ByteArray → Option (List ByteArray)
 | 0,_,_,_,_,_,_=>none
 | k + 1,x5,x8,x9,x10,x123000,x123001=>if x10 < x9 then (if 0 ≤ x10 then (if x10 < (x8.length:Int) then ((card_cube_text.f ((rd_T96 x8 x10).f0) ((rd_T96 x8 x10).f1) x123000).bind fun t125=>(if x5.length < 8796093022208 then (card_function_texts.l0 k (x5 ++ [t125]) x8 x9 (wrap64 (x10 + 1)) x123000 x123001) else (none))) else (none)) else (none)) else (some x5)
def card_function_texts.f (k:Nat) (a0_0:Int) (a0_1:ByteArray) (l1:List (S96)):Option (List ByteArray):=card_function_texts.l0 k ([]:List ByteArray) l1 (l1.length:Int) 0 a0_0 a0_1
theorem card_function_texts.mono_l:∀ k,(∀ y0 y1 y2 y3 y4 y5,LeO (card_function_texts.l0 k y0 y1 y2 y3 y4 y5) (card_function_texts.l0 (k + 1) y0 y1 y2 y3 y4 y5))
 | 0=>fun _ _ _ _ _ _ r h=>by simp [card_function_texts.l0] at h
 | k + 1=>by
  have ih0:=card_function_texts.mono_l k
  intro y0 y1 y2 y3 y4 y5
  unfold card_function_texts.l0
  repeat' first
  | (with_reducible exact ih0 _ _ _ _ _ _)
  | (with_reducible exact LeO.refl _)
  | (with_reducible exact LeO.none _)
  | (with_reducible refine LeO.ite ?_ ?_)
  | (with_reducible refine LeO.bind ?_ (fun _=>?_))
  | exact ih0 _ _ _ _ _ _
  | exact LeO.none _
  | refine LeO.ite ?_ ?_
  | refine LeO.bind ?_ (fun _=>?_)
theorem card_function_texts.mono:∀ a0 a1 a2 k,LeO (card_function_texts.f k a0 a1 a2) (card_function_texts.f (k + 1) a0 a1 a2):=by
 intro a0 a1 a2 k
 have ih0:=card_function_texts.mono_l k
 unfold card_function_texts.f
 repeat' first
   | (with_reducible exact ih0 _ _ _ _ _ _)
   | (with_reducible exact LeO.refl _)
   | (with_reducible exact LeO.none _)
   | (with_reducible refine LeO.ite ?_ ?_)
   | (with_reducible refine LeO.bind ?_ (fun _=>?_))
   | exact ih0 _ _ _ _ _ _
   | exact LeO.none _
   | refine LeO.ite ?_ ?_
   | refine LeO.bind ?_ (fun _=>?_)
theorem card_function_texts.calls (k:Nat) (a0_0:Int) (a0_1:ByteArray) (A1:Option Addr) (c1:Nat) (l1:List (S96)) (r:List ByteArray) (w:World) (hr1:Kd.C k96 w A1 l1.length l1) (hc1:l1.length ≤ c1) (h:card_function_texts.f k a0_0 a0_1 l1 = some r) :
  Calls Try.prog 66 #[.agg #[.int .i64 a0_0,.string a0_1],.slice A1 l1.length c1] w fun e w'=>∃ v0_:Value,e = .returned (v0_) ∧ Kd.R Kd.string 9 w' w.heap.size (fun _=>True) v0_ r ∧ Below w.heap.size w w':=by
 have hu81:=Try.underlying81
 have hu96:=Try.underlying96
 have HR1:=Aside0.mk hr1
 have HC1:=Aside0.mk hc1
 clear hr1 hc1
 have HB:=Aside0.mk (Below.refl w.heap.size w)
 have H:(card_function_texts.l0 k ([]:List ByteArray) l1 (l1.length:Int) 0 a0_0 a0_1) = some r:=h
 clear h
 have H':=Aside0.mk H
 clear H
 go_enter Try.func66,Try.ntmps66
 go_wp2_with (first | ((with_reducible refine gate_dst (N:=2) rfl ?_);refine box_event ?hg (N:=2) ?hd (cs:=#[.int .i64 a0_0,.string a0_1]) (t:=81) ?hr ?_;(case hd=>rfl);(case hg=>rfl);(case hr=>first | (go_simp;done) | (go_simp;rfl));intro gb122 hg w3 hbox hb;have n0_:=Aside0.mk (below_step (by repeat (first | (with_reducible first | exact HB.out | apply below_alloc | apply pw_below_drewN | apply below_drew1) | exact HB.out)) hb);have n1_:=Aside0.mk (hbox);have n2_:=Aside0.mk ((by rw [hg];exact (below_size (by repeat (first | (with_reducible first | exact HB.out | apply below_alloc | apply pw_below_drewN | apply below_drew1) | exact HB.out))):w.heap.size ≤ gb122));have n3_:=Aside0.mk ((by rw [hg];exact (below_size (by repeat (first | (with_reducible first | exact HB.out | apply below_alloc | apply pw_below_drewN | apply below_drew1) | exact HB.out))):w.heap.size ≤ gb122));clear HB;have HB:=n0_;have BK122:=n1_;have GW122:=n2_;have GE122:=n3_;clear n0_ n1_ n2_ n3_;clear hb hbox hg))
 go_loopg [5,10] k (fun kq v5 v10 w'=>∃ (x5_1:List ByteArray) (x10_1:Int),v10 = .int .i64 x10_1 ∧ Aside0 (card_function_texts.l0 kq x5_1 l1 (l1.length:Int) x10_1 a0_0 a0_1 = some r) ∧ Aside0 (kq ≤ k) ∧ Aside0 (Kd.R Kd.string 9 w' w.heap.size (fun _=>True) v5 x5_1) ∧ Aside0 (w'.heap[gb122]? = some (.cells #[.int .i64 a0_0,.string a0_1] 81 (0,0))) ∧ Aside0 (Below w.heap.size w w'))
 case atStart=>exact ⟨(([]:List ByteArray)),(0),(by first | rfl | (simp;done) | (simp [*];done)),H',⟨Nat.le_refl _⟩,⟨by first | exact Kd.R_nil _ _ _ _ _ | exact Kd.N_nil _ _ _ _ _ | exact Kd.V_nil _ _ _ _ _ | exact Kd.Q_nil _ _ _ _ _ | exact Kd.S_nil _ _ _ _ _⟩,⟨by (with_reducible repeat (first | refine blk_drewN ?_ _ | refine blk_drew ?_ | refine blk_alloc ?_ _));exact BK122.out⟩,⟨by repeat (first | (with_reducible first | exact HB.out | apply below_alloc | apply pw_below_drewN | apply below_drew1 | refine below_set ?_ GE122.out) | exact HB.out)⟩⟩
 case round =>
  clear H'
  try clear c1
  try clear p2
  obtain ⟨x5_1,x10_1,rfl,HA,HK1,HO_5,BK122,HB⟩:=hrel
  cases gk with
  | zero=>exact absurd HA.out (by simp [card_function_texts.l0])
  | succ k1 =>
   have H:=HA.out
   clear HA
   simp only [card_function_texts.l0] at H
   by_cases c4:x10_1 < (l1.length:Int)
   case neg =>
    rw [if_neg c4] at H
    have c4b0:decide (x10_1 < (l1.length:Int)) = false:=decide_eq_false c4
    clear c4
    obtain rfl:=Option.some.inj H
    go_wp2
    go_ret
    exact ⟨_,by first | rfl | (simp [errW_none,errW_some] <;> rfl) | (simp [*,errW_none,errW_some] <;> rfl),by (with_reducible repeat (first | apply Kd.R_alloc | apply Kd.R_drewN | apply Kd.R_drew));exact HO_5.out,by repeat (first | (with_reducible first | exact HB.out | apply below_alloc | apply pw_below_drewN | apply below_drew1 | refine below_set ?_ GE122.out) | exact HB.out)⟩
   rw [if_pos c4] at H
   have c4b0:decide (x10_1 < (l1.length:Int)) = true:=decide_eq_true c4
   clear c4
   by_cases c5:0 ≤ x10_1
   case neg =>
    rw [if_neg c5] at H
    exact absurd H (by simp)
   rw [if_pos c5] at H
   have c5b0:decide (0 ≤ x10_1) = true:=decide_eq_true c5
   clear c5
   by_cases c6:x10_1 < (l1.length:Int)
   case neg =>
    rw [if_neg c6] at H
    exact absurd H (by simp)
   rw [if_pos c6] at H
   have c6b0:decide (x10_1 < (l1.length:Int)) = true:=decide_eq_true c6
   clear c6
   replace H:=Option.bind_eq_some_iff.mp H
   obtain ⟨t125,A70,H⟩:=H
   replace H:(if x5_1.length < 8796093022208 then (card_function_texts.l0 k1 (x5_1 ++ [t125]) l1 (l1.length:Int) (wrap64 (x10_1 + 1)) a0_0 a0_1) else (none)) = some r:=H
   have A7:=Aside0.mk A70
   clear A70
   by_cases c8:x5_1.length < 8796093022208
   case neg =>
    rw [if_neg c8] at H
    exact absurd H (by simp)
   rw [if_pos c8] at H
   have LMc8:=Aside0.mk c8
   clear c8
   obtain ⟨y126,hy126⟩:∃ y_:List ByteArray,y_ = (x5_1 ++ [t125]):=⟨_,rfl⟩
   replace H:(card_function_texts.l0 k1 y126 l1 (l1.length:Int) (wrap64 (x10_1 + 1)) a0_0 a0_1) = some r:=by first | (rw [hy126];with_reducible exact H) | (have H2_:=(Option.bind_some _ _).symm.trans H;rw [hy126];with_reducible exact H2_) | (have H2_:=(Option.bind_some _ _).symm.trans H;with_reducible exact H2_) | with_reducible exact H | (rw [hy126];exact H) | exact H
   have Ny126:=Aside0.mk hy126
   clear hy126
   have H':=Aside0.mk H
   clear H
   have p123:0 ≤ (x10_1:Int):=of_decide_eq_true (by first | (with_reducible assumption) | assumption)
   have q123:x10_1 < (l1.length:Int):=of_decide_eq_true (by first | (with_reducible assumption) | assumption)
   obtain ⟨ad123,e123,hx123_0,hx123_1⟩:=at_T96 HR1.out x10_1 p123 q123
   cases e123
   replace hx123_0:=(HB.out.cell (World.block_lt_of_cell? w _ hx123_0)).trans hx123_0
   replace hx123_1:=(HB.out.cell (World.block_lt_of_cell? w _ hx123_1)).trans hx123_1
   replace p123:=eq_true p123
   replace q123:=eq_true q123
   go_wp2_with (first | ((with_reducible refine gate_dst (N:=7) rfl ?_);refine box_event ?hg (N:=7) ?hd (cs:=#[.int .i64 0,.int .i64 0]) (t:=96) ?hr ?_;(case hd=>rfl);(case hg=>rfl);(case hr=>first | (go_simp;done) | (go_simp;rfl));intro gb124 hg w9 hbox hb;have n0_:=Aside0.mk (Kd.R_below (by (with_reducible repeat (first | apply Kd.R_alloc | apply Kd.R_drewN | apply Kd.R_drew));exact HO_5.out) hb);have n1_:=Aside0.mk (blk_below (g:=gb122) (o:=.cells #[.int .i64 a0_0,.string a0_1] 81 (0,0)) (by (with_reducible repeat (first | refine blk_drewN ?_ _ | refine blk_drew ?_ | refine blk_alloc ?_ _));exact BK122.out) hb);have n2_:=Aside0.mk (below_step (by repeat (first | (with_reducible first | exact HB.out | apply below_alloc | apply pw_below_drewN | apply below_drew1 | refine below_set ?_ GE122.out) | exact HB.out)) hb);have n3_:=Aside0.mk (hbox);have n4_:=Aside0.mk ((by rw [hg];exact (below_size (by repeat (first | (with_reducible first | exact HB.out | apply below_alloc | apply pw_below_drewN | apply below_drew1 | refine below_set ?_ GE122.out) | exact HB.out))):w.heap.size ≤ gb124));have n5_:=Aside0.mk ((by rw [hg];exact (below_size (by repeat (first | (with_reducible first | exact HB.out | apply below_alloc | apply pw_below_drewN | apply below_drew1 | refine below_set ?_ GE122.out) | exact HB.out))):w.heap.size ≤ gb124));have n6_:=Aside0.mk ((by rw [hg];exact Nat.ne_of_lt (blk_lt (g:=gb122) (o:=.cells #[.int .i64 a0_0,.string a0_1] 81 (0,0)) (by (with_reducible repeat (first | refine blk_drewN ?_ _ | refine blk_drew ?_ | refine blk_alloc ?_ _));exact BK122.out)):gb122 ≠ gb124));have n7_:=Aside0.mk ((by rw [hg];exact Nat.ne_of_gt (blk_lt (g:=gb122) (o:=.cells #[.int .i64 a0_0,.string a0_1] 81 (0,0)) (by (with_reducible repeat (first | refine blk_drewN ?_ _ | refine blk_drew ?_ | refine blk_alloc ?_ _));exact BK122.out)):gb124 ≠ gb122));clear HO_5;clear BK122;clear HB;have HO_5:=n0_;have BK122:=n1_;have HB:=n2_;have BK124:=n3_;have GW124:=n4_;have GE124:=n5_;have NB122_124:=n6_;have NB124_122:=n7_;clear n0_ n1_ n2_ n3_ n4_ n5_ n6_ n7_;clear hb hbox hg;have hnb10:=NB124_122.out;have hnc10:=NB122_124.out;have hcz11_0:w9.cell? ⟨gb124,0,none⟩ = some (.int .i64 0):=(blk_cell BK124.out 0).trans rfl;have hcz11_1:w9.cell? ⟨gb124,1,none⟩ = some (.int .i64 0):=(blk_cell BK124.out 1).trans rfl;have hfz11_0:=blk_frozen BK124.out 0;have hfz11_1:=blk_frozen BK124.out 1;have hcz12_0:w9.cell? ⟨gb122,0,none⟩ = some (.int .i64 a0_0):=(blk_cell BK122.out 0).trans rfl;have hcz12_1:w9.cell? ⟨gb122,1,none⟩ = some (.string a0_1):=(blk_cell BK122.out 1).trans rfl;have hfz12_0:=blk_frozen BK122.out 0;have hfz12_1:=blk_frozen BK122.out 1) | ((with_reducible refine gate_callee (f:=97) rfl ?_);refine goesL_ (some 18) rfl rfl Try.func97 (by kernel_rfl) rfl #[.agg #[.int .i64 ((rd_T96 l1 x10_1).f0),.int .i64 ((rd_T96 l1 x10_1).f1)],.int .i64 a0_0] rfl (by (try simp only [List.map_toArray,List.map_cons,List.map_nil]);first | done | rfl | (simp only [List.length_drop,List.length_take];rfl)) ?_;(with_reducible refine (card_cube_text.calls ((rd_T96 l1 x10_1).f0) ((rd_T96 l1 x10_1).f1) a0_0 t125 _ A7.out).mono ?_);rintro e w13 ⟨rfl,hb⟩;refine ⟨_,rfl,?_⟩;have n0_:=Aside0.mk (Kd.R_below (by (with_reducible repeat (first | apply Kd.R_alloc | apply Kd.R_drewN | apply Kd.R_drew));exact (Kd.R_mono (Kd.R_far (p:=⟨gb124,1,none⟩) (Kd.R_far (p:=⟨gb124,0,none⟩) (Kd.R_types HO_5.out BK124.out (by decide)) (fun _ hk=>hk.2) (.int .i64 ((rd_T96 l1 x10_1).f0))) (fun _ hk=>hk.2) (.int .i64 ((rd_T96 l1 x10_1).f1))) (fun _ h_=>h_.1))) hb);have n1_:=Aside0.mk (blk_below (g:=gb122) (o:=.cells #[.int .i64 a0_0,.string a0_1] 81 (0,0)) (by (with_reducible repeat (first | refine blk_drewN ?_ _ | refine blk_drew ?_ | refine blk_alloc ?_ _));refine blk_far ?_ NB122_124.out _;(with_reducible repeat (first | refine blk_drewN ?_ _ | refine blk_drew ?_ | refine blk_alloc ?_ _));refine blk_far ?_ NB122_124.out _;(with_reducible repeat (first | refine blk_drewN ?_ _ | refine blk_drew ?_ | refine blk_alloc ?_ _));exact BK122.out) hb);have n2_:=Aside0.mk (blk_below (g:=gb124) (o:=.cells #[.int .i64 ((rd_T96 l1 x10_1).f0),.int .i64 ((rd_T96 l1 x10_1).f1)] 96 (0,0)) (by (with_reducible repeat (first | refine blk_drewN ?_ _ | refine blk_drew ?_ | refine blk_alloc ?_ _));refine blk_put (cs:=#[.int .i64 ((rd_T96 l1 x10_1).f0),.int .i64 0]) ?_ 1 _ rfl;(with_reducible repeat (first | refine blk_drewN ?_ _ | refine blk_drew ?_ | refine blk_alloc ?_ _));refine blk_put (cs:=#[.int .i64 0,.int .i64 0]) ?_ 0 _ rfl;(with_reducible repeat (first | refine blk_drewN ?_ _ | refine blk_drew ?_ | refine blk_alloc ?_ _));exact BK124.out) hb);have n3_:=Aside0.mk (below_step (by repeat (first | (with_reducible first | exact HB.out | apply below_alloc | apply pw_below_drewN | apply below_drew1 | refine below_set ?_ GE122.out | refine below_set ?_ GE124.out) | exact HB.out)) hb);clear HO_5;clear BK122;clear BK124;clear HB;have HO_5:=n0_;have BK122:=n1_;have BK124:=n2_;have HB:=n3_;clear n0_ n1_ n2_ n3_;(try clear hb)) | ((with_reducible refine gate_builtin (b:=.append) (xs:=#[.tmp 14,.tmp 19]) rfl ?_);at_builtin;refine Kd.R_append Kd.string (w0:=w) w.heap.size rfl (.tmp 14) (.tmp 19) 39 9 (.string ⟨#[]⟩) 16 rfl Try.underlying39 info9 rfl (by decide) (by omega) u5 x5_1 t125 [.string t125] (fun _=>True) (fun _=>False) rfl rfl ?aP (fun _ hk=>hk.elim) ?aF ?aO ?aB ?aS ?aL ?_;(case aP=>exact rfl);(case aB=>exact (by repeat (first | (with_reducible first | exact HB.out | apply below_alloc | apply pw_below_drewN | apply below_drew1 | refine below_set ?_ GE122.out | refine below_set ?_ GE124.out) | exact HB.out)));(case aF=>exact (fun _ _=>trivial));(case aO=>exact (by (with_reducible repeat (first | apply Kd.R_alloc | apply Kd.R_drewN | apply Kd.R_drew));exact HO_5.out));(case aS=>exact (below_size (by repeat (first | (with_reducible first | exact HB.out | apply below_alloc | apply pw_below_drewN | apply below_drew1 | refine below_set ?_ GE122.out | refine below_set ?_ GE124.out) | exact HB.out))));(case aL=>have:=LMc8.out;omega);intro v127 w14 ho hb hg hat;rw [← Ny126.out] at ho;have n0_:=Aside0.mk (blk_grown (g:=gb122) (o:=.cells #[.int .i64 a0_0,.string a0_1] 81 (0,0)) (by (with_reducible repeat (first | refine blk_drewN ?_ _ | refine blk_drew ?_ | refine blk_alloc ?_ _));exact BK122.out) hg (Kd.R_ne HO_5.out BK122.out (by decide)));have n1_:=Aside0.mk (blk_grown (g:=gb124) (o:=.cells #[.int .i64 ((rd_T96 l1 x10_1).f0),.int .i64 ((rd_T96 l1 x10_1).f1)] 96 (0,0)) (by (with_reducible repeat (first | refine blk_drewN ?_ _ | refine blk_drew ?_ | refine blk_alloc ?_ _));exact BK124.out) hg (Kd.R_ne HO_5.out BK124.out (by decide)));have n2_:=Aside0.mk (hb);have n3_:=Aside0.mk (ho);clear BK122;clear BK124;clear HB;clear HO_5;have BK122:=n0_;have BK124:=n1_;have HB:=n2_;have HO128:=n3_;clear n0_ n1_ n2_ n3_;clear ho hb hg hat))
   go_roundg k1
   case measure=>have:=HK1.out;omega
   case rel=>exact ⟨(y126),(wrap64 (x10_1 + 1)),(by first | rfl | (simp;done) | (simp [*];done)),H',⟨by have:=HK1.out;omega⟩,⟨by (with_reducible repeat (first | apply Kd.R_alloc | apply Kd.R_drewN | apply Kd.R_drew));exact HO128.out⟩,⟨by (with_reducible repeat (first | refine blk_drewN ?_ _ | refine blk_drew ?_ | refine blk_alloc ?_ _));exact BK122.out⟩,⟨by repeat (first | (with_reducible first | exact HB.out | apply below_alloc | apply pw_below_drewN | apply below_drew1 | refine below_set ?_ GE122.out | refine below_set ?_ GE124.out) | exact HB.out)⟩⟩
def card_Primes.f (k:Nat) (a0:ByteArray):Option (List ByteArray × Int):=(card_newFunction.f a0).bind fun bt142=>(if bt142.2.2 = true then ((card_function_primes.f bt142.1 bt142.2.1).bind fun t146=>((card_function_texts.f k bt142.1 bt142.2.1 t146).bind fun t149=>(some (t149,0)))) else (some (([]:List ByteArray),2)))
theorem card_Primes.mono:∀ a0 k,LeO (card_Primes.f k a0) (card_Primes.f (k + 1) a0):=by
 intro a0 k
 unfold card_Primes.f
 repeat' first
   | (with_reducible exact card_function_texts.mono _ _ _ _)
   | (with_reducible exact LeO.refl _)
   | (with_reducible exact LeO.none _)
   | (with_reducible refine LeO.ite ?_ ?_)
   | (with_reducible refine LeO.bind ?_ (fun _=>?_))
   | exact card_function_texts.mono _ _ _ _
   | exact LeO.none _
   | refine LeO.ite ?_ ?_
   | refine LeO.bind ?_ (fun _=>?_)
theorem card_Primes.calls (k:Nat) (a0:ByteArray) (r1:List ByteArray) (r2:Int) (w:World) (h:card_Primes.f k a0 = some (r1,r2)) :
  Calls Try.prog 29 #[.string a0] w fun e w'=>∃ v0_:Value,e = .returned (.tuple #[v0_,.int .i64 r2]) ∧ Kd.R Kd.string 9 w' w.heap.size (fun _=>True) v0_ r1 ∧ Below w.heap.size w w':=by
 have hu81:=Try.underlying81
 have HB:=Aside0.mk (Below.refl w.heap.size w)
 have H:((card_newFunction.f a0).bind fun bt142=>(if bt142.2.2 = true then ((card_function_primes.f bt142.1 bt142.2.1).bind fun t146=>((card_function_texts.f k bt142.1 bt142.2.1 t146).bind fun t149=>(some (t149,0)))) else (some (([]:List ByteArray),2)))) = some (r1,r2):=h
 clear h
 replace H:=Option.bind_eq_some_iff.mp H
 obtain ⟨⟨t142,t143,t144⟩,A20,H⟩:=H
 replace H:(if t144 = true then ((card_function_primes.f t142 t143).bind fun t146=>((card_function_texts.f k t142 t143 t146).bind fun t149=>(some (t149,0)))) else (some (([]:List ByteArray),2))) = some (r1,r2):=H
 have A2:=Aside0.mk A20
 clear A20
 by_cases c3:t144 = true
 case neg =>
  replace c3:=Bool.eq_false_iff.mpr c3
  subst c3
  have H1:(some (([]:List ByteArray),2)) = some (r1,r2):=by rw [if_neg (show ¬ (false = true) by decide)] at H;exact H
  clear H
  have H:=H1
  clear H1
  simp only [Option.some.injEq,Prod.mk.injEq] at H
  obtain ⟨rfl,rfl⟩:=H
  go_enter Try.func29,Try.ntmps29
  go_wp2_with (first | ((with_reducible refine gate_callee (f:=65) rfl ?_);refine goesL_ (some 8) rfl rfl Try.func65 (by kernel_rfl) rfl #[.string a0] rfl (by (try simp only [List.map_toArray,List.map_cons,List.map_nil]);first | done | rfl | (simp only [List.length_drop,List.length_take];rfl)) ?_;(with_reducible refine (card_newFunction.calls a0 t142 t143 false _ A2.out).mono ?_);rintro e w14 ⟨rfl,hb⟩;refine ⟨_,rfl,?_⟩;have n0_:=Aside0.mk (below_step (by repeat (first | (with_reducible first | exact HB.out | apply below_alloc | apply pw_below_drewN | apply below_drew1) | exact HB.out)) hb);clear HB;have HB:=n0_;clear n0_;(try clear hb)) | ((with_reducible refine gate_dst (N:=4) rfl ?_);refine box_event ?hg (N:=4) ?hd (cs:=#[.int .i64 0,.string (⟨#[]⟩:ByteArray)]) (t:=81) ?hr ?_;(case hd=>rfl);(case hg=>rfl);(case hr=>first | (go_simp;done) | (go_simp;rfl));intro gb145 hg w15 hbox hb;have n0_:=Aside0.mk (below_step (by repeat (first | (with_reducible first | exact HB.out | apply below_alloc | apply pw_below_drewN | apply below_drew1) | exact HB.out)) hb);have n1_:=Aside0.mk (hbox);have n2_:=Aside0.mk ((by rw [hg];exact (below_size (by repeat (first | (with_reducible first | exact HB.out | apply below_alloc | apply pw_below_drewN | apply below_drew1) | exact HB.out))):w.heap.size ≤ gb145));have n3_:=Aside0.mk ((by rw [hg];exact (below_size (by repeat (first | (with_reducible first | exact HB.out | apply below_alloc | apply pw_below_drewN | apply below_drew1) | exact HB.out))):w.heap.size ≤ gb145));clear HB;have HB:=n0_;have BK145:=n1_;have GW145:=n2_;have GE145:=n3_;clear n0_ n1_ n2_ n3_;clear hb hbox hg;have hcz16_0:w15.cell? ⟨gb145,0,none⟩ = some (.int .i64 0):=(blk_cell BK145.out 0).trans rfl;have hcz16_1:w15.cell? ⟨gb145,1,none⟩ = some (.string (⟨#[]⟩:ByteArray)):=(blk_cell BK145.out 1).trans rfl;have hfz16_0:=blk_frozen BK145.out 0;have hfz16_1:=blk_frozen BK145.out 1))
  go_ret2
  exact ⟨_,by first | rfl | (simp [errW_none,errW_some] <;> rfl) | (simp [*,errW_none,errW_some] <;> rfl),by first | exact Kd.R_nil _ _ _ _ _ | exact Kd.N_nil _ _ _ _ _ | exact Kd.V_nil _ _ _ _ _ | exact Kd.Q_nil _ _ _ _ _ | exact Kd.S_nil _ _ _ _ _,by repeat (first | (with_reducible first | exact HB.out | apply below_alloc | apply pw_below_drewN | apply below_drew1 | refine below_set ?_ GE145.out) | exact HB.out)⟩
 subst c3
 have H1:((card_function_primes.f t142 t143).bind fun t146=>((card_function_texts.f k t142 t143 t146).bind fun t149=>(some (t149,0)))) = some (r1,r2):=by rw [if_pos rfl] at H;exact H
 clear H
 have H:=H1
 clear H1
 replace H:=Option.bind_eq_some_iff.mp H
 obtain ⟨t146,A40,H⟩:=H
 replace H:((card_function_texts.f k t142 t143 t146).bind fun t149=>(some (t149,0))) = some (r1,r2):=H
 have A4:=Aside0.mk A40
 clear A40
 replace H:=Option.bind_eq_some_iff.mp H
 obtain ⟨t149,A50,H⟩:=H
 replace H:(some (t149,0)) = some (r1,r2):=H
 have A5:=Aside0.mk A50
 clear A50
 simp only [Option.some.injEq,Prod.mk.injEq] at H
 obtain ⟨rfl,rfl⟩:=H
 go_enter Try.func29,Try.ntmps29
 try go_wp2_with (first | ((with_reducible refine gate_callee (f:=65) rfl ?_);refine goesL_ (some 8) rfl rfl Try.func65 (by kernel_rfl) rfl #[.string a0] rfl (by (try simp only [List.map_toArray,List.map_cons,List.map_nil]);first | done | rfl | (simp only [List.length_drop,List.length_take];rfl)) ?_;(with_reducible refine (card_newFunction.calls a0 t142 t143 true _ A2.out).mono ?_);rintro e w6 ⟨rfl,hb⟩;refine ⟨_,rfl,?_⟩;have n0_:=Aside0.mk (below_step (by repeat (first | (with_reducible first | exact HB.out | apply below_alloc | apply pw_below_drewN | apply below_drew1) | exact HB.out)) hb);clear HB;have HB:=n0_;clear n0_;(try clear hb)) | ((with_reducible refine gate_dst (N:=4) rfl ?_);refine box_event ?hg (N:=4) ?hd (cs:=#[.int .i64 0,.string (⟨#[]⟩:ByteArray)]) (t:=81) ?hr ?_;(case hd=>rfl);(case hg=>rfl);(case hr=>first | (go_simp;done) | (go_simp;rfl));intro gb145 hg w7 hbox hb;have n0_:=Aside0.mk (below_step (by repeat (first | (with_reducible first | exact HB.out | apply below_alloc | apply pw_below_drewN | apply below_drew1) | exact HB.out)) hb);have n1_:=Aside0.mk (hbox);have n2_:=Aside0.mk ((by rw [hg];exact (below_size (by repeat (first | (with_reducible first | exact HB.out | apply below_alloc | apply pw_below_drewN | apply below_drew1) | exact HB.out))):w.heap.size ≤ gb145));have n3_:=Aside0.mk ((by rw [hg];exact (below_size (by repeat (first | (with_reducible first | exact HB.out | apply below_alloc | apply pw_below_drewN | apply below_drew1) | exact HB.out))):w.heap.size ≤ gb145));clear HB;have HB:=n0_;have BK145:=n1_;have GW145:=n2_;have GE145:=n3_;clear n0_ n1_ n2_ n3_;clear hb hbox hg;have hcz8_0:w7.cell? ⟨gb145,0,none⟩ = some (.int .i64 0):=(blk_cell BK145.out 0).trans rfl;have hcz8_1:w7.cell? ⟨gb145,1,none⟩ = some (.string (⟨#[]⟩:ByteArray)):=(blk_cell BK145.out 1).trans rfl;have hfz8_0:=blk_frozen BK145.out 0;have hfz8_1:=blk_frozen BK145.out 1))
 have n0_:Aside0 (((w7.setCell ⟨gb145,0,none⟩ (.int .i64 t142)).setCell ⟨gb145,1,none⟩ (.string t143)).heap[gb145]? = some (.cells #[.int .i64 t142,.string t143] 81 (0,0))):=⟨by (with_reducible repeat (first | refine blk_drewN ?_ _ | refine blk_drew ?_ | refine blk_alloc ?_ _));refine blk_put (cs:=#[.int .i64 t142,.string (⟨#[]⟩:ByteArray)]) ?_ 1 _ rfl;(with_reducible repeat (first | refine blk_drewN ?_ _ | refine blk_drew ?_ | refine blk_alloc ?_ _));refine blk_put (cs:=#[.int .i64 0,.string (⟨#[]⟩:ByteArray)]) ?_ 0 _ rfl;(with_reducible repeat (first | refine blk_drewN ?_ _ | refine blk_drew ?_ | refine blk_alloc ?_ _));exact BK145.out⟩
 have n1_:Aside0 (Below w.heap.size w ((w7.setCell ⟨gb145,0,none⟩ (.int .i64 t142)).setCell ⟨gb145,1,none⟩ (.string t143))):=⟨by repeat (first | (with_reducible first | exact HB.out | apply below_alloc | apply pw_below_drewN | apply below_drew1 | refine below_set ?_ GE145.out) | exact HB.out)⟩
 (try clear BK145)
 (try clear HB)
 generalize ((w7.setCell ⟨gb145,0,none⟩ (.int .i64 t142)).setCell ⟨gb145,1,none⟩ (.string t143)) = w9 at n0_ n1_ ⊢
 have BK145:=n0_
 have HB:=n1_
 clear n0_ n1_
 have n0_:=Aside0.mk (blk_drew BK145.out)
 have n1_:=Aside0.mk (below_drew1 HB.out)
 clear BK145
 clear HB
 have BK145:=n0_
 have HB:=n1_
 clear n0_ n1_
 refine start_ (n:=6) (S:=fun w'=>w'.cell? ⟨gb145,0,none⟩ = some (.int .i64 t142) ∧ w'.cell? ⟨gb145,1,none⟩ = some (.string t143)) (ds:=[]) #[false,false,false,false,false,false] (by kernel_rfl) rfl rfl ⟨(blk_cell BK145.out 0).trans rfl,(blk_cell BK145.out 1).trans rfl⟩ (fun hHeld=>?_)
 generalize w9.drew = w10 at BK145 HB hHeld ⊢
 refine take_ (i:=0) (N:=some 13) (v:=?_) (a':=?_) #[true,false,false,false,false,false] rfl rfl (by kernel_rfl) (fun _ _ _ h=>h) (Or.inl ⟨by rfl,?_⟩) hHeld ?_ ?_
 rotate_left
 ·rintro w' ⟨s0,s1⟩
  go_simp
  with_reducible rfl
 rotate_left
 ·simp only [Act.put,List.setIfInBounds_toArray,List.set_cons_zero,List.set_cons_succ,i64_w,i32_w]
  rfl
 refine take_ (i:=1) (N:=some 14) (v:=?_) (a':=?_) #[true,true,false,false,false,false] rfl rfl (by kernel_rfl) (fun _ _ _ h=>h) (Or.inl ⟨by rfl,?_⟩) hHeld ?_ ?_
 rotate_left
 ·rintro w' ⟨s0,s1⟩
  go_simp
  with_reducible rfl
 rotate_left
 ·simp only [Act.put,List.setIfInBounds_toArray,List.set_cons_zero,List.set_cons_succ,i64_w,i32_w]
  rfl
 refine one_ (i:=2) (N:=some 15) #[true,true,true,false,false,false] rfl rfl (by kernel_rfl) (by decide) (fun K hK=>?_)
 refine goes_ Try.func67 (by kernel_rfl) rfl #[.agg #[.int .i64 t142,.string t143]] (by rfl) rfl rfl (by (try simp only [List.map_toArray,List.map_cons,List.map_nil]);first | done | rfl | (simp only [List.length_drop,List.length_take];rfl)) ?_
 with_reducible refine (card_function_primes.calls t142 t143 t146 _ A4.out).mono ?_
 rintro e w11 ⟨v147,rfl,ho0,hb⟩
 refine ⟨_,rfl,?_⟩
 have n0_:=Aside0.mk (Kd.R_lower ho0 (below_size (by repeat (first | (with_reducible first | exact HB.out | apply below_alloc | apply pw_below_drewN | apply below_drew1 | refine below_set ?_ GE145.out) | exact HB.out))))
 have n1_:=Aside0.mk (blk_below (g:=gb145) (o:=.cells #[.int .i64 t142,.string t143] 81 (0,0)) (by (with_reducible repeat (first | refine blk_drewN ?_ _ | refine blk_drew ?_ | refine blk_alloc ?_ _));exact BK145.out) hb)
 have n2_:=Aside0.mk (below_step (by repeat (first | (with_reducible first | exact HB.out | apply below_alloc | apply pw_below_drewN | apply below_drew1 | refine below_set ?_ GE145.out) | exact HB.out)) hb)
 clear BK145
 clear HB
 have HO148:=n0_
 have BK145:=n1_
 have HB:=n2_
 clear n0_ n1_ n2_
 (try clear hb)
 (try clear ho0)
 obtain ⟨Ao12,co12,eo12⟩:=Kd.R_slice HO148.out
 (first | subst eo12 | (injection eo12 with f1_ f2_ f3_;have f4_:=f1_.symm;have f5_:=f3_.symm;clear f1_ f2_ f3_;subst f4_;subst f5_))
 refine hK.out _ _ ⟨(blk_cell BK145.out 0).trans rfl,(blk_cell BK145.out 1).trans rfl⟩ (fun hHeld=>?_)
 clear hK K
 refine norm_ (a':=?_) ?_ ?_
 rotate_left
 ·show Act.put _ (some 15) _ = _
  simp only [Act.put,List.setIfInBounds_toArray,List.set_cons_zero,List.set_cons_succ,i64_w,i32_w]
  rfl
 refine one_ (i:=3) (N:=some 16) #[true,true,true,true,false,false] rfl rfl (by kernel_rfl) (by decide) (fun K hK=>?_)
 refine goes_ Try.func66 (by kernel_rfl) rfl #[.agg #[.int .i64 t142,.string t143],.slice Ao12 t146.length co12] (by rfl) rfl rfl (by (try simp only [List.map_toArray,List.map_cons,List.map_nil]);first | done | rfl | (simp only [List.length_drop,List.length_take];rfl)) ?_
 with_reducible refine (card_function_texts.calls k t142 t143 _ _ t146 t149 _ ?side1 ?side2 A5.out).mono ?_
 (case side1=>repeat (first | exact (Kd.R_reads' HO148.out).2.2 | (with_reducible refine Kd.C_alloc ?_ _) | (with_reducible refine Kd.C_drewN ?_ _) | (with_reducible refine Kd.C_drew ?_)))
 (case side2=>exact (Kd.R_reads' HO148.out).2.1)
 rintro e w13 ⟨v150,rfl,ho0,hb⟩
 refine ⟨_,rfl,?_⟩
 have n0_:=Aside0.mk (Kd.R_below (by (with_reducible repeat (first | apply Kd.R_alloc | apply Kd.R_drewN | apply Kd.R_drew));exact HO148.out) hb)
 have n1_:=Aside0.mk (Kd.R_lower ho0 (below_size (by repeat (first | (with_reducible first | exact HB.out | apply below_alloc | apply pw_below_drewN | apply below_drew1 | refine below_set ?_ GE145.out) | exact HB.out))))
 have n2_:=Aside0.mk (blk_below (g:=gb145) (o:=.cells #[.int .i64 t142,.string t143] 81 (0,0)) (by (with_reducible repeat (first | refine blk_drewN ?_ _ | refine blk_drew ?_ | refine blk_alloc ?_ _));exact BK145.out) hb)
 have n3_:=Aside0.mk (below_step (by repeat (first | (with_reducible first | exact HB.out | apply below_alloc | apply pw_below_drewN | apply below_drew1 | refine below_set ?_ GE145.out) | exact HB.out)) hb)
 clear HO148
 clear BK145
 clear HB
 have HO148:=n0_
 have HO151:=n1_
 have BK145:=n2_
 have HB:=n3_
 clear n0_ n1_ n2_ n3_
 (try clear hb)
 (try clear ho0)
 refine hK.out _ _ ⟨(blk_cell BK145.out 0).trans rfl,(blk_cell BK145.out 1).trans rfl⟩ (fun hHeld=>?_)
 clear hK K
 refine norm_ (a':=?_) ?_ ?_
 rotate_left
 ·show Act.put _ (some 16) _ = _
  simp only [Act.put,List.setIfInBounds_toArray,List.set_cons_zero,List.set_cons_succ,i64_w,i32_w]
  rfl
 refine pure_ (i:=4) (N:=some 2) (v:=?_) (a':=?_) #[true,true,true,true,true,false] rfl rfl (by kernel_rfl) (fun _ _ _ h=>h) (Or.inl ⟨by rfl,?_⟩) ?_ ?_
 rotate_left
 ·intro w'
  go_simp
  with_reducible rfl
 rotate_left
 ·simp only [Act.put,List.setIfInBounds_toArray,List.set_cons_zero,List.set_cons_succ,i64_w,i32_w]
  rfl
 refine pure_ (i:=5) (N:=some 3) (v:=?_) (a':=?_) #[true,true,true,true,true,true] rfl rfl (by kernel_rfl) (fun _ _ _ h=>h) (Or.inl ⟨by rfl,?_⟩) ?_ ?_
 rotate_left
 ·intro w'
  go_simp
  with_reducible rfl
 rotate_left
 ·simp only [Act.put,List.setIfInBounds_toArray,List.set_cons_zero,List.set_cons_succ,i64_w,i32_w]
  rfl
 refine done_ (by kernel_rfl) ?_
 try go_wp2
 go_ret2
 exact ⟨_,by first | rfl | (simp [errW_none,errW_some] <;> rfl) | (simp [*,errW_none,errW_some] <;> rfl),by (with_reducible repeat (first | apply Kd.R_alloc | apply Kd.R_drewN | apply Kd.R_drew));exact HO151.out,by repeat (first | (with_reducible first | exact HB.out | apply below_alloc | apply pw_below_drewN | apply below_drew1 | refine below_set ?_ GE145.out) | exact HB.out)⟩
mutual
def numnahlaw01_inside.l0:Nat → ByteArray → ByteArray → Int → Option (Bool)
 | 0,_,_,_=>none
 | k + 1,x0,x1,x5=>if x5 < (x0.size:Int) then (numnahlaw01_inside.j1 k x0 x1 x5 (decide (x5 < (x1.size:Int)))) else (numnahlaw01_inside.j1 k x0 x1 x5 false)
def numnahlaw01_inside.j1:Nat → ByteArray → ByteArray → Int → Bool → Option (Bool)
 | 0,_,_,_,_=>none
 | k + 1,x0,x1,x5,x15=>if x15 = true then (if 0 ≤ x5 then (if x5 < (x1.size:Int) then (if (bt x1 x5) = 45 then (numnahlaw01_inside.l0 k x0 x1 (wrap64 (x5 + 1))) else (if x5 < (x0.size:Int) then (if (bt x0 x5) = (bt x1 x5) then (numnahlaw01_inside.l0 k x0 x1 (wrap64 (x5 + 1))) else (some false)) else (none))) else (none)) else (none)) else (some ((x0.size:Int) == (x1.size:Int)))
end
def numnahlaw01_inside.f (k:Nat) (a0:ByteArray) (a1:ByteArray):Option (Bool):=numnahlaw01_inside.l0 k a0 a1 0
theorem numnahlaw01_inside.mono_l:∀ k,(∀ y0 y1 y2,LeO (numnahlaw01_inside.l0 k y0 y1 y2) (numnahlaw01_inside.l0 (k + 1) y0 y1 y2)) ∧ (∀ y0 y1 y2 y3,LeO (numnahlaw01_inside.j1 k y0 y1 y2 y3) (numnahlaw01_inside.j1 (k + 1) y0 y1 y2 y3))
 | 0=>⟨fun _ _ _ r h=>by simp [numnahlaw01_inside.l0] at h,fun _ _ _ _ r h=>by simp [numnahlaw01_inside.j1] at h⟩
 | k + 1=>by
  obtain ⟨ih0,ih1⟩:=numnahlaw01_inside.mono_l k
  refine ⟨?_,?_⟩
  ·intro y0 y1 y2
   unfold numnahlaw01_inside.l0
   repeat' first
   | (with_reducible exact ih0 _ _ _)
   | (with_reducible exact ih1 _ _ _ _)
   | (with_reducible exact LeO.refl _)
   | (with_reducible exact LeO.none _)
   | (with_reducible refine LeO.ite ?_ ?_)
   | (with_reducible refine LeO.bind ?_ (fun _=>?_))
   | exact ih0 _ _ _
   | exact ih1 _ _ _ _
   | exact LeO.none _
   | refine LeO.ite ?_ ?_
   | refine LeO.bind ?_ (fun _=>?_)
  intro y0 y1 y2 y3
  unfold numnahlaw01_inside.j1
  repeat' first
  | (with_reducible exact ih0 _ _ _)
  | (with_reducible exact ih1 _ _ _ _)
  | (with_reducible exact LeO.refl _)
  | (with_reducible exact LeO.none _)
  | (with_reducible refine LeO.ite ?_ ?_)
  | (with_reducible refine LeO.bind ?_ (fun _=>?_))
  | exact ih0 _ _ _
  | exact ih1 _ _ _ _
  | exact LeO.none _
  | refine LeO.ite ?_ ?_
  | refine LeO.bind ?_ (fun _=>?_)
theorem numnahlaw01_inside.mono:∀ a0 a1 k,LeO (numnahlaw01_inside.f k a0 a1) (numnahlaw01_inside.f (k + 1) a0 a1):=by
 intro a0 a1 k
 obtain ⟨ih0,ih1⟩:=numnahlaw01_inside.mono_l k
 unfold numnahlaw01_inside.f
 repeat' first
   | (with_reducible exact ih0 _ _ _)
   | (with_reducible exact ih1 _ _ _ _)
   | (with_reducible exact LeO.refl _)
   | (with_reducible exact LeO.none _)
   | (with_reducible refine LeO.ite ?_ ?_)
   | (with_reducible refine LeO.bind ?_ (fun _=>?_))
   | exact ih0 _ _ _
   | exact ih1 _ _ _ _
   | exact LeO.none _
   | refine LeO.ite ?_ ?_
   | refine LeO.bind ?_ (fun _=>?_)
theorem numnahlaw01_inside.calls (k:Nat) (a0:ByteArray) (a1:ByteArray) (r:Bool) (w:World) (h:numnahlaw01_inside.f k a0 a1 = some r) :
  Calls Try.prog 31 #[.string a0,.string a1] w fun e w'=>e = .returned (.bool r) ∧ Drawn0 w w':=by
 have H:(numnahlaw01_inside.l0 k a0 a1 0) = some r:=h
 clear h
 have H':=Aside0.mk H
 clear H
 go_enter Try.func31,Try.ntmps31
 go_wp2
 repeat (go_quiet (fail);try go_wp2)
 go_loopg [5] k (fun kq v5 w'=>∃ (x5_1:Int),v5 = .int .i64 x5_1 ∧ Aside0 (numnahlaw01_inside.l0 kq a0 a1 x5_1 = some r) ∧ Aside0 (kq ≤ k) ∧ Drawn0 w w')
 case atStart=>exact ⟨(0),(by first | rfl | (simp;done) | (simp [*];done)),H',⟨Nat.le_refl _⟩,by repeat (first | exact Drawn0.refl _ | apply Drawn0.step)⟩
 case round =>
  clear H'
  try clear p2
  obtain ⟨x5_1,rfl,HA,HK1,⟨m1,rfl⟩⟩:=hrel
  cases gk with
  | zero=>exact absurd HA.out (by simp [numnahlaw01_inside.l0])
  | succ k1 =>
   have H:=HA.out
   clear HA
   simp only [numnahlaw01_inside.l0] at H
   have HC3:=Aside0.mk H
   clear H
   go_upto_region 2 with (fail)
   repeat (go_quiet (fail);go_upto_region 2 with (fail))
   go_cut [15] (fun v15 wc=>∃ (kq:Nat) (x15_2:Bool),v15 = .bool x15_2 ∧ Aside0 (numnahlaw01_inside.j1 kq a0 a1 x5_1 x15_2 = some r) ∧ Aside0 (kq ≤ k1) ∧ Drawn0 w wc)
   case first =>
    have H:=HC3.out
    clear HC3
    by_cases c4:x5_1 < (a0.size:Int)
    case neg =>
     rw [if_neg c4] at H
     have c4b0:decide (x5_1 < (a0.size:Int)) = false:=decide_eq_false c4
     clear c4
     (first | rw [c4b0] | (simp only [i64_w,i32_w];rw [c4b0]) | skip)
     have H':=Aside0.mk H
     clear H
     go_wp2
     repeat (go_quiet (fail);try go_wp2)
     go_meet
     case rel=>exact ⟨_,(false),(by first | rfl | (simp;done) | (simp [*];done)),H',⟨by have:=HK1.out;first | omega | exact Nat.le_refl _⟩,by repeat (first | exact Drawn0.refl _ | apply Drawn0.step)⟩
    rw [if_pos c4] at H
    have c4b0:decide (x5_1 < (a0.size:Int)) = true:=decide_eq_true c4
    clear c4
    (first | rw [c4b0] | (simp only [i64_w,i32_w];rw [c4b0]) | skip)
    have H':=Aside0.mk H
    clear H
    go_wp2
    repeat (go_quiet (fail);try go_wp2)
    go_meet
    case rel=>exact ⟨_,(decide (x5_1 < (a1.size:Int))),(by first | rfl | (simp;done) | (simp [*];done)),H',⟨by have:=HK1.out;first | omega | exact Nat.le_refl _⟩,by repeat (first | exact Drawn0.refl _ | apply Drawn0.step)⟩
   case rest =>
    clear HC3
    try clear p2
    try clear c3
    try clear c4
    try clear c4b0
    try clear p2
    obtain ⟨kq,x15_2,rfl,HA,HJ2,⟨mc2,rfl⟩⟩:=hcut
    cases kq with
    | zero=>exact absurd HA.out (by simp [numnahlaw01_inside.j1])
    | succ kj2 =>
     have H:=HA.out
     clear HA
     simp only [numnahlaw01_inside.j1] at H
     by_cases c5:x15_2 = true
     case neg =>
      replace c5:=Bool.eq_false_iff.mpr c5
      subst c5
      have H1:(some ((a0.size:Int) == (a1.size:Int))) = some r:=by rw [if_neg (show ¬ (false = true) by decide)] at H;exact H
      clear H
      have H:=H1
      clear H1
      obtain rfl:=Option.some.inj H
      go_wp2
      repeat (go_quiet (fail);try go_wp2)
      go_ret
      exact ⟨by first | rfl | (simp;done) | (simp [*];done),by repeat (first | exact Drawn0.refl _ | apply Drawn0.step)⟩
     subst c5
     have H1:(if 0 ≤ x5_1 then (if x5_1 < (a1.size:Int) then (if (bt a1 x5_1) = 45 then (numnahlaw01_inside.l0 kj2 a0 a1 (wrap64 (x5_1 + 1))) else (if x5_1 < (a0.size:Int) then (if (bt a0 x5_1) = (bt a1 x5_1) then (numnahlaw01_inside.l0 kj2 a0 a1 (wrap64 (x5_1 + 1))) else (some false)) else (none))) else (none)) else (none)) = some r:=by rw [if_pos rfl] at H;exact H
     clear H
     have H:=H1
     clear H1
     by_cases c6:0 ≤ x5_1
     case neg =>
      rw [if_neg c6] at H
      exact absurd H (by simp)
     rw [if_pos c6] at H
     have c6b0:decide (0 ≤ x5_1) = true:=decide_eq_true c6
     clear c6
     by_cases c7:x5_1 < (a1.size:Int)
     case neg =>
      rw [if_neg c7] at H
      exact absurd H (by simp)
     rw [if_pos c7] at H
     have c7b0:decide (x5_1 < (a1.size:Int)) = true:=decide_eq_true c7
     clear c7
     by_cases c9:(bt a1 x5_1) = 45
     ·rw [if_pos c9] at H
      have c9b0:((bt a1 x5_1) == 45) = true:=beq_iff_eq.mpr c9
      have c9b1:((bt a1 x5_1) != 45) = false:=bne_eq_false_iff_eq.mpr c9
      clear c9
      have H':=Aside0.mk H
      clear H
      have p8:0 ≤ (x5_1:Int):=of_decide_eq_true (by first | (with_reducible assumption) | assumption)
      have q8:x5_1 < (a1.size:Int):=of_decide_eq_true (by first | (with_reducible assumption) | assumption)
      have hx8:=bt_at a1 x5_1
      replace p8:=eq_true p8
      replace q8:=eq_true q8
      go_wp2
      repeat (go_quiet (fail);try go_wp2)
      go_roundg kj2
      case measure=>have:=HK1.out;have:=HJ2.out;omega
      case rel=>exact ⟨(wrap64 (x5_1 + 1)),(by first | rfl | (simp;done) | (simp [*];done)),H',⟨by have:=HK1.out;have:=HJ2.out;omega⟩,by repeat (first | exact Drawn0.refl _ | apply Drawn0.step)⟩
     rw [if_neg c9] at H
     have c9b0:((bt a1 x5_1) == 45) = false:=beq_eq_false_iff_ne.mpr c9
     have c9b1:((bt a1 x5_1) != 45) = true:=bne_iff_ne.mpr c9
     by_cases c10:x5_1 < (a0.size:Int)
     case neg =>
      rw [if_neg c10] at H
      exact absurd H (by simp)
     rw [if_pos c10] at H
     have c10b0:decide (x5_1 < (a0.size:Int)) = true:=decide_eq_true c10
     clear c10
     by_cases c13:(bt a0 x5_1) = (bt a1 x5_1)
     case neg =>
      rw [if_neg c13] at H
      have c13b0:((bt a0 x5_1) == (bt a1 x5_1)) = false:=beq_eq_false_iff_ne.mpr c13
      have c13b1:((bt a0 x5_1) != (bt a1 x5_1)) = true:=bne_iff_ne.mpr c13
      obtain rfl:=Option.some.inj H
      have p8:0 ≤ (x5_1:Int):=of_decide_eq_true (by first | (with_reducible assumption) | assumption)
      have q8:x5_1 < (a1.size:Int):=of_decide_eq_true (by first | (with_reducible assumption) | assumption)
      have hx8:=bt_at a1 x5_1
      replace p8:=eq_true p8
      replace q8:=eq_true q8
      have p11:0 ≤ (x5_1:Int):=of_decide_eq_true (by first | (with_reducible assumption) | assumption)
      have q11:x5_1 < (a0.size:Int):=of_decide_eq_true (by first | (with_reducible assumption) | assumption)
      have hx11:=bt_at a0 x5_1
      replace p11:=eq_true p11
      replace q11:=eq_true q11
      have p12:0 ≤ (x5_1:Int):=of_decide_eq_true (by first | (with_reducible assumption) | assumption)
      have q12:x5_1 < (a1.size:Int):=of_decide_eq_true (by first | (with_reducible assumption) | assumption)
      have hx12:=bt_at a1 x5_1
      replace p12:=eq_true p12
      replace q12:=eq_true q12
      go_wp2
      repeat (go_quiet (fail);try go_wp2)
      go_ret
      exact ⟨by first | rfl | (simp;done) | (simp [*];done),by repeat (first | exact Drawn0.refl _ | apply Drawn0.step)⟩
     rw [if_pos c13] at H
     have c13b0:((bt a0 x5_1) == (bt a1 x5_1)) = true:=beq_iff_eq.mpr c13
     have c13b1:((bt a0 x5_1) != (bt a1 x5_1)) = false:=bne_eq_false_iff_eq.mpr c13
     clear c13
     have H':=Aside0.mk H
     clear H
     have p8:0 ≤ (x5_1:Int):=of_decide_eq_true (by first | (with_reducible assumption) | assumption)
     have q8:x5_1 < (a1.size:Int):=of_decide_eq_true (by first | (with_reducible assumption) | assumption)
     have hx8:=bt_at a1 x5_1
     replace p8:=eq_true p8
     replace q8:=eq_true q8
     have p11:0 ≤ (x5_1:Int):=of_decide_eq_true (by first | (with_reducible assumption) | assumption)
     have q11:x5_1 < (a0.size:Int):=of_decide_eq_true (by first | (with_reducible assumption) | assumption)
     have hx11:=bt_at a0 x5_1
     replace p11:=eq_true p11
     replace q11:=eq_true q11
     have p12:0 ≤ (x5_1:Int):=of_decide_eq_true (by first | (with_reducible assumption) | assumption)
     have q12:x5_1 < (a1.size:Int):=of_decide_eq_true (by first | (with_reducible assumption) | assumption)
     have hx12:=bt_at a1 x5_1
     replace p12:=eq_true p12
     replace q12:=eq_true q12
     go_wp2
     repeat (go_quiet (fail);try go_wp2)
     go_roundg kj2
     case measure=>have:=HK1.out;have:=HJ2.out;omega
     case rel=>exact ⟨(wrap64 (x5_1 + 1)),(by first | rfl | (simp;done) | (simp [*];done)),H',⟨by have:=HK1.out;have:=HJ2.out;omega⟩,by repeat (first | exact Drawn0.refl _ | apply Drawn0.step)⟩
def numnahref01_Implicant.l0:Nat → ByteArray → ByteArray → Bool → Int → Option (Bool)
 | 0,_,_,_,_=>none
 | k + 1,x0,x1,x5,x6=>if x6 < (x0.size:Int) then ((numnahref01_Contains.f k x1 x6).bind fun t222=>(if t222 = true then (if 0 ≤ x6 then (if (bt x0 x6) = 48 then (some false) else (if x5 = true then (numnahref01_Implicant.l0 k x0 x1 true (wrap64 (x6 + 1))) else (numnahref01_Implicant.l0 k x0 x1 ((bt x0 x6) == 49) (wrap64 (x6 + 1))))) else (none)) else (numnahref01_Implicant.l0 k x0 x1 x5 (wrap64 (x6 + 1))))) else (some x5)
def numnahref01_Implicant.f (k:Nat) (a0:ByteArray) (a1:ByteArray):Option (Bool):=numnahref01_Implicant.l0 k a0 a1 false 0
theorem numnahref01_Implicant.mono_l:∀ k,(∀ y0 y1 y2 y3,LeO (numnahref01_Implicant.l0 k y0 y1 y2 y3) (numnahref01_Implicant.l0 (k + 1) y0 y1 y2 y3))
 | 0=>fun _ _ _ _ r h=>by simp [numnahref01_Implicant.l0] at h
 | k + 1=>by
  have ih0:=numnahref01_Implicant.mono_l k
  intro y0 y1 y2 y3
  unfold numnahref01_Implicant.l0
  repeat' first
  | (with_reducible exact ih0 _ _ _ _)
  | (with_reducible exact numnahref01_Contains.mono _ _ _)
  | (with_reducible exact LeO.refl _)
  | (with_reducible exact LeO.none _)
  | (with_reducible refine LeO.ite ?_ ?_)
  | (with_reducible refine LeO.bind ?_ (fun _=>?_))
  | exact ih0 _ _ _ _
  | exact numnahref01_Contains.mono _ _ _
  | exact LeO.none _
  | refine LeO.ite ?_ ?_
  | refine LeO.bind ?_ (fun _=>?_)
theorem numnahref01_Implicant.mono:∀ a0 a1 k,LeO (numnahref01_Implicant.f k a0 a1) (numnahref01_Implicant.f (k + 1) a0 a1):=by
 intro a0 a1 k
 have ih0:=numnahref01_Implicant.mono_l k
 unfold numnahref01_Implicant.f
 repeat' first
   | (with_reducible exact ih0 _ _ _ _)
   | (with_reducible exact numnahref01_Contains.mono _ _ _)
   | (with_reducible exact LeO.refl _)
   | (with_reducible exact LeO.none _)
   | (with_reducible refine LeO.ite ?_ ?_)
   | (with_reducible refine LeO.bind ?_ (fun _=>?_))
   | exact ih0 _ _ _ _
   | exact numnahref01_Contains.mono _ _ _
   | exact LeO.none _
   | refine LeO.ite ?_ ?_
   | refine LeO.bind ?_ (fun _=>?_)
theorem numnahref01_Implicant.calls (k:Nat) (a0:ByteArray) (a1:ByteArray) (r:Bool) (w:World) (h:numnahref01_Implicant.f k a0 a1 = some r) :
  Calls Try.prog 32 #[.string a0,.string a1] w fun e w'=>e = .returned (.bool r) ∧ Drawn0 w w':=by
 have H:(numnahref01_Implicant.l0 k a0 a1 false 0) = some r:=h
 clear h
 have H':=Aside0.mk H
 clear H
 go_enter Try.func32,Try.ntmps32
 go_wp2
 go_loopg [5,6] k (fun kq v5 v6 w'=>∃ (x5_1:Bool) (x6_1:Int),v5 = .bool x5_1 ∧ v6 = .int .i64 x6_1 ∧ Aside0 (numnahref01_Implicant.l0 kq a0 a1 x5_1 x6_1 = some r) ∧ Aside0 (kq ≤ k) ∧ Drawn0 w w')
 case atStart=>exact ⟨(false),(0),(by first | rfl | (simp;done) | (simp [*];done)),(by first | rfl | (simp;done) | (simp [*];done)),H',⟨Nat.le_refl _⟩,by repeat (first | exact Drawn0.refl _ | apply Drawn0.step)⟩
 case round =>
  clear H'
  try clear p2
  obtain ⟨x5_1,x6_1,rfl,rfl,HA,HK1,⟨m1,rfl⟩⟩:=hrel
  cases gk with
  | zero=>exact absurd HA.out (by simp [numnahref01_Implicant.l0])
  | succ k1 =>
   have H:=HA.out
   clear HA
   simp only [numnahref01_Implicant.l0] at H
   by_cases c3:x6_1 < (a0.size:Int)
   case neg =>
    rw [if_neg c3] at H
    have c3b0:decide (x6_1 < (a0.size:Int)) = false:=decide_eq_false c3
    clear c3
    obtain rfl:=Option.some.inj H
    go_wp2
    go_ret
    exact ⟨by first | rfl | (simp;done) | (simp [*];done),by repeat (first | exact Drawn0.refl _ | apply Drawn0.step)⟩
   rw [if_pos c3] at H
   have c3b0:decide (x6_1 < (a0.size:Int)) = true:=decide_eq_true c3
   clear c3
   replace H:=Option.bind_eq_some_iff.mp H
   obtain ⟨t222,A40,H⟩:=H
   replace H:(if t222 = true then (if 0 ≤ x6_1 then (if (bt a0 x6_1) = 48 then (some false) else (if x5_1 = true then (numnahref01_Implicant.l0 k1 a0 a1 true (wrap64 (x6_1 + 1))) else (numnahref01_Implicant.l0 k1 a0 a1 ((bt a0 x6_1) == 49) (wrap64 (x6_1 + 1))))) else (none)) else (numnahref01_Implicant.l0 k1 a0 a1 x5_1 (wrap64 (x6_1 + 1)))) = some r:=H
   have A4:=Aside0.mk A40
   clear A40
   by_cases c5:t222 = true
   case neg =>
    replace c5:=Bool.eq_false_iff.mpr c5
    subst c5
    have H1:(numnahref01_Implicant.l0 k1 a0 a1 x5_1 (wrap64 (x6_1 + 1))) = some r:=by rw [if_neg (show ¬ (false = true) by decide)] at H;exact H
    clear H
    have H:=H1
    clear H1
    have H':=Aside0.mk H
    clear H
    go_wp2_with (first | ((with_reducible refine gate_callee (f:=68) rfl ?_);refine goesL_ (some 15) rfl rfl Try.func68 (by kernel_rfl) rfl #[.string a1,.int .i64 x6_1] rfl (by (try simp only [List.map_toArray,List.map_cons,List.map_nil]);first | done | rfl | (simp only [List.length_drop,List.length_take];rfl)) ?_;(with_reducible refine (numnahref01_Contains.calls k1 a1 x6_1 false _ A4.out).mono ?_);rintro e w' ⟨rfl,⟨nd,rfl⟩⟩;refine ⟨_,rfl,?_⟩))
    go_roundg k1
    case measure=>have:=HK1.out;omega
    case rel=>exact ⟨(x5_1),(wrap64 (x6_1 + 1)),(by first | rfl | (simp;done) | (simp [*];done)),(by first | rfl | (simp;done) | (simp [*];done)),H',⟨by have:=HK1.out;omega⟩,by repeat (first | exact Drawn0.refl _ | apply Drawn0.step)⟩
   subst c5
   have H1:(if 0 ≤ x6_1 then (if (bt a0 x6_1) = 48 then (some false) else (if x5_1 = true then (numnahref01_Implicant.l0 k1 a0 a1 true (wrap64 (x6_1 + 1))) else (numnahref01_Implicant.l0 k1 a0 a1 ((bt a0 x6_1) == 49) (wrap64 (x6_1 + 1))))) else (none)) = some r:=by rw [if_pos rfl] at H;exact H
   clear H
   have H:=H1
   clear H1
   by_cases c6:0 ≤ x6_1
   case neg =>
    rw [if_neg c6] at H
    exact absurd H (by simp)
   rw [if_pos c6] at H
   have c6b0:decide (0 ≤ x6_1) = true:=decide_eq_true c6
   clear c6
   by_cases c8:(bt a0 x6_1) = 48
   ·rw [if_pos c8] at H
    have c8b0:((bt a0 x6_1) == 48) = true:=beq_iff_eq.mpr c8
    have c8b1:((bt a0 x6_1) != 48) = false:=bne_eq_false_iff_eq.mpr c8
    clear c8
    obtain rfl:=Option.some.inj H
    go_wp2_with (first | ((with_reducible refine gate_callee (f:=68) rfl ?_);refine goesL_ (some 15) rfl rfl Try.func68 (by kernel_rfl) rfl #[.string a1,.int .i64 x6_1] rfl (by (try simp only [List.map_toArray,List.map_cons,List.map_nil]);first | done | rfl | (simp only [List.length_drop,List.length_take];rfl)) ?_;(with_reducible refine (numnahref01_Contains.calls k1 a1 x6_1 true _ A4.out).mono ?_);rintro e w' ⟨rfl,⟨nd,rfl⟩⟩;refine ⟨_,rfl,?_⟩;have p7:0 ≤ (x6_1:Int):=of_decide_eq_true (by first | (with_reducible assumption) | assumption);have q7:x6_1 < (a0.size:Int):=of_decide_eq_true (by first | (with_reducible assumption) | assumption);have hx7:=bt_at a0 x6_1;replace p7:=eq_true p7;replace q7:=eq_true q7))
    go_ret
    exact ⟨by first | rfl | (simp;done) | (simp [*];done),by repeat (first | exact Drawn0.refl _ | apply Drawn0.step)⟩
   rw [if_neg c8] at H
   have c8b0:((bt a0 x6_1) == 48) = false:=beq_eq_false_iff_ne.mpr c8
   have c8b1:((bt a0 x6_1) != 48) = true:=bne_iff_ne.mpr c8
   by_cases c9:x5_1 = true
   ·subst c9
    have H1:(numnahref01_Implicant.l0 k1 a0 a1 true (wrap64 (x6_1 + 1))) = some r:=by rw [if_pos rfl] at H;exact H
    clear H
    have H:=H1
    clear H1
    have H':=Aside0.mk H
    clear H
    go_wp2_with (first | ((with_reducible refine gate_callee (f:=68) rfl ?_);refine goesL_ (some 15) rfl rfl Try.func68 (by kernel_rfl) rfl #[.string a1,.int .i64 x6_1] rfl (by (try simp only [List.map_toArray,List.map_cons,List.map_nil]);first | done | rfl | (simp only [List.length_drop,List.length_take];rfl)) ?_;(with_reducible refine (numnahref01_Contains.calls k1 a1 x6_1 true _ A4.out).mono ?_);rintro e w' ⟨rfl,⟨nd,rfl⟩⟩;refine ⟨_,rfl,?_⟩;have p7:0 ≤ (x6_1:Int):=of_decide_eq_true (by first | (with_reducible assumption) | assumption);have q7:x6_1 < (a0.size:Int):=of_decide_eq_true (by first | (with_reducible assumption) | assumption);have hx7:=bt_at a0 x6_1;replace p7:=eq_true p7;replace q7:=eq_true q7))
    go_roundg k1
    case measure=>have:=HK1.out;omega
    case rel=>exact ⟨(true),(wrap64 (x6_1 + 1)),(by first | rfl | (simp;done) | (simp [*];done)),(by first | rfl | (simp;done) | (simp [*];done)),H',⟨by have:=HK1.out;omega⟩,by repeat (first | exact Drawn0.refl _ | apply Drawn0.step)⟩
   replace c9:=Bool.eq_false_iff.mpr c9
   subst c9
   have H1:(numnahref01_Implicant.l0 k1 a0 a1 ((bt a0 x6_1) == 49) (wrap64 (x6_1 + 1))) = some r:=by rw [if_neg (show ¬ (false = true) by decide)] at H;exact H
   clear H
   have H:=H1
   clear H1
   have H':=Aside0.mk H
   clear H
   go_wp2_with (first | ((with_reducible refine gate_callee (f:=68) rfl ?_);refine goesL_ (some 15) rfl rfl Try.func68 (by kernel_rfl) rfl #[.string a1,.int .i64 x6_1] rfl (by (try simp only [List.map_toArray,List.map_cons,List.map_nil]);first | done | rfl | (simp only [List.length_drop,List.length_take];rfl)) ?_;(with_reducible refine (numnahref01_Contains.calls k1 a1 x6_1 true _ A4.out).mono ?_);rintro e w' ⟨rfl,⟨nd,rfl⟩⟩;refine ⟨_,rfl,?_⟩;have p7:0 ≤ (x6_1:Int):=of_decide_eq_true (by first | (with_reducible assumption) | assumption);have q7:x6_1 < (a0.size:Int):=of_decide_eq_true (by first | (with_reducible assumption) | assumption);have hx7:=bt_at a0 x6_1;replace p7:=eq_true p7;replace q7:=eq_true q7;have p10:0 ≤ (x6_1:Int):=of_decide_eq_true (by first | (with_reducible assumption) | assumption);have q10:x6_1 < (a0.size:Int):=of_decide_eq_true (by first | (with_reducible assumption) | assumption);have hx10:=bt_at a0 x6_1;replace p10:=eq_true p10;replace q10:=eq_true q10))
   go_roundg k1
   case measure=>have:=HK1.out;omega
   case rel=>exact ⟨(((bt a0 x6_1) == 49)),(wrap64 (x6_1 + 1)),(by first | rfl | (simp;done) | (simp [*];done)),(by first | rfl | (simp;done) | (simp [*];done)),H',⟨by have:=HK1.out;omega⟩,by repeat (first | exact Drawn0.refl _ | apply Drawn0.step)⟩
mutual
def numnahlaw01_CardInside.j0:Nat → Int → ByteArray → ByteArray → List ByteArray → Bool → Option (Bool)
 | 0,_,_,_,_,_=>none
 | k + 1,x0,x2,x7,x8,x33=>if x33 = true then (some false) else (numnahlaw01_CardInside.l0 k x0 x2 x7 x8 ([]:List Int) 0)
def numnahlaw01_CardInside.l0:Nat → Int → ByteArray → ByteArray → List ByteArray → List Int → Int → Option (Bool)
 | 0,_,_,_,_,_,_=>none
 | k + 1,x0,x2,x7,x8,x10,x11=>if x11 < x0 then (if x11 < (x2.size:Int) then (if 0 ≤ x11 then (if 0 ≤ (Int.tmod (wrap64 (bt x2 x11)) 3) then (if (Int.tmod (wrap64 (bt x2 x11)) 3) < 3 then (if x10.length < 140737488355328 then (numnahlaw01_CardInside.l0 k x0 x2 x7 x8 (x10 ++ [bt (⟨#[45,48,49]⟩:ByteArray) (Int.tmod (wrap64 (bt x2 x11)) 3)]) (wrap64 (x11 + 1))) else (none)) else (none)) else (none)) else (none)) else (if 0 < 3 then (if x10.length < 140737488355328 then (numnahlaw01_CardInside.l0 k x0 x2 x7 x8 (x10 ++ [bt (⟨#[45,48,49]⟩:ByteArray) 0]) (wrap64 (x11 + 1))) else (none)) else (none))) else (numnahlaw01_CardInside.l1 k x0 x7 x8 x10 false 0)
def numnahlaw01_CardInside.l1:Nat → Int → ByteArray → List ByteArray → List Int → Bool → Int → Option (Bool)
 | 0,_,_,_,_,_,_=>none
 | k + 1,x0,x7,x8,x10,x13,x14=>if x14 < (x8.length:Int) then (if 0 ≤ x14 then ((numnahref01_Cube.f k (rdOf ByteArray.empty x8 x14) x0).bind fun t243=>(if t243 = true then (if x13 = true then (numnahlaw01_CardInside.j3 k x0 x7 x8 x10 true x14) else ((numnahlaw01_inside.f k (strOfNums x10) (rdOf ByteArray.empty x8 x14)).bind fun t245=>(numnahlaw01_CardInside.j3 k x0 x7 x8 x10 t245 x14))) else (some false))) else (none)) else (if x13 = true then ((numnahref01_Covers.f k x7 x8).bind fun t237=>(if t237 = true then ((numnahlaw01_awake.f).bind fun t238=>(some t238)) else (some false))) else ((numnahref01_Implicant.f k x7 (strOfNums x10)).bind fun t239=>(if t239 = true then (some false) else ((numnahref01_Covers.f k x7 x8).bind fun t240=>(if t240 = true then ((numnahlaw01_awake.f).bind fun t241=>(some t241)) else (some false))))))
def numnahlaw01_CardInside.j3:Nat → Int → ByteArray → List ByteArray → List Int → Bool → Int → Option (Bool)
 | 0,_,_,_,_,_,_=>none
 | k + 1,x0,x7,x8,x10,x13,x14=>numnahlaw01_CardInside.l2 k x0 x7 x8 x10 x13 x14 0
def numnahlaw01_CardInside.l2:Nat → Int → ByteArray → List ByteArray → List Int → Bool → Int → Int → Option (Bool)
 | 0,_,_,_,_,_,_,_=>none
 | k + 1,x0,x7,x8,x10,x13,x14,x15=>if x15 < (x8.length:Int) then (if x15 = x14 then (numnahlaw01_CardInside.l2 k x0 x7 x8 x10 x13 x14 (wrap64 (x15 + 1))) else (if 0 ≤ x14 then (if x14 < (x8.length:Int) then (if 0 ≤ x15 then ((numnahlaw01_inside.f k (rdOf ByteArray.empty x8 x14) (rdOf ByteArray.empty x8 x15)).bind fun t248=>(if t248 = true then (some false) else (numnahlaw01_CardInside.l2 k x0 x7 x8 x10 x13 x14 (wrap64 (x15 + 1))))) else (none)) else (none)) else (none))) else (numnahlaw01_CardInside.l1 k x0 x7 x8 x10 x13 (wrap64 (x14 + 1)))
end
def numnahlaw01_CardInside.f (k:Nat) (a0:Int) (a1:ByteArray) (a2:ByteArray):Option (Bool):=(numnahlaw01_mod.f a0 5).bind fun t225=>((numnahlaw01_function.f k a1 (wrap64 (1 + t225)) 3).bind fun t226=>((card_Primes.f k t226).bind fun bt227=>(if bt227.2 = 0 then (numnahlaw01_CardInside.j0 k (wrap64 (1 + t225)) a2 t226 bt227.1 (decide ((bt227.1.length:Int) > 243))) else (numnahlaw01_CardInside.j0 k (wrap64 (1 + t225)) a2 t226 bt227.1 true))))
theorem numnahlaw01_CardInside.mono_l:∀ k,(∀ y0 y1 y2 y3 y4,LeO (numnahlaw01_CardInside.j0 k y0 y1 y2 y3 y4) (numnahlaw01_CardInside.j0 (k + 1) y0 y1 y2 y3 y4)) ∧ (∀ y0 y1 y2 y3 y4 y5,LeO (numnahlaw01_CardInside.l0 k y0 y1 y2 y3 y4 y5) (numnahlaw01_CardInside.l0 (k + 1) y0 y1 y2 y3 y4 y5)) ∧ (∀ y0 y1 y2 y3 y4 y5,LeO (numnahlaw01_CardInside.l1 k y0 y1 y2 y3 y4 y5) (numnahlaw01_CardInside.l1 (k + 1) y0 y1 y2 y3 y4 y5)) ∧ (∀ y0 y1 y2 y3 y4 y5,LeO (numnahlaw01_CardInside.j3 k y0 y1 y2 y3 y4 y5) (numnahlaw01_CardInside.j3 (k + 1) y0 y1 y2 y3 y4 y5)) ∧ (∀ y0 y1 y2 y3 y4 y5 y6,LeO (numnahlaw01_CardInside.l2 k y0 y1 y2 y3 y4 y5 y6) (numnahlaw01_CardInside.l2 (k + 1) y0 y1 y2 y3 y4 y5 y6))
 | 0=>⟨fun _ _ _ _ _ r h=>by simp [numnahlaw01_CardInside.j0] at h,fun _ _ _ _ _ _ r h=>by simp [numnahlaw01_CardInside.l0] at h,fun _ _ _ _ _ _ r h=>by simp [numnahlaw01_CardInside.l1] at h,fun _ _ _ _ _ _ r h=>by simp [numnahlaw01_CardInside.j3] at h,fun _ _ _ _ _ _ _ r h=>by simp [numnahlaw01_CardInside.l2] at h⟩
 | k + 1=>by
  obtain ⟨ih0,ih1,ih2,ih3,ih4⟩:=numnahlaw01_CardInside.mono_l k
  refine ⟨?_,?_,?_,?_,?_⟩
  ·intro y0 y1 y2 y3 y4
   unfold numnahlaw01_CardInside.j0
   repeat' first
   | (with_reducible exact ih0 _ _ _ _ _)
   | (with_reducible exact ih1 _ _ _ _ _ _)
   | (with_reducible exact ih2 _ _ _ _ _ _)
   | (with_reducible exact ih3 _ _ _ _ _ _)
   | (with_reducible exact ih4 _ _ _ _ _ _ _)
   | (with_reducible exact card_Primes.mono _ _)
   | (with_reducible exact numnahlaw01_function.mono _ _ _ _)
   | (with_reducible exact numnahlaw01_inside.mono _ _ _)
   | (with_reducible exact numnahref01_Covers.mono _ _ _)
   | (with_reducible exact numnahref01_Cube.mono _ _ _)
   | (with_reducible exact numnahref01_Implicant.mono _ _ _)
   | (with_reducible exact LeO.refl _)
   | (with_reducible exact LeO.none _)
   | (with_reducible refine LeO.ite ?_ ?_)
   | (with_reducible refine LeO.bind ?_ (fun _=>?_))
   | exact ih0 _ _ _ _ _
   | exact ih1 _ _ _ _ _ _
   | exact ih2 _ _ _ _ _ _
   | exact ih3 _ _ _ _ _ _
   | exact ih4 _ _ _ _ _ _ _
   | exact card_Primes.mono _ _
   | exact numnahlaw01_function.mono _ _ _ _
   | exact numnahlaw01_inside.mono _ _ _
   | exact numnahref01_Covers.mono _ _ _
   | exact numnahref01_Cube.mono _ _ _
   | exact numnahref01_Implicant.mono _ _ _
   | exact LeO.none _
   | refine LeO.ite ?_ ?_
   | refine LeO.bind ?_ (fun _=>?_)
  ·intro y0 y1 y2 y3 y4 y5
   unfold numnahlaw01_CardInside.l0
   repeat' first
   | (with_reducible exact ih0 _ _ _ _ _)
   | (with_reducible exact ih1 _ _ _ _ _ _)
   | (with_reducible exact ih2 _ _ _ _ _ _)
   | (with_reducible exact ih3 _ _ _ _ _ _)
   | (with_reducible exact ih4 _ _ _ _ _ _ _)
   | (with_reducible exact card_Primes.mono _ _)
   | (with_reducible exact numnahlaw01_function.mono _ _ _ _)
   | (with_reducible exact numnahlaw01_inside.mono _ _ _)
   | (with_reducible exact numnahref01_Covers.mono _ _ _)
   | (with_reducible exact numnahref01_Cube.mono _ _ _)
   | (with_reducible exact numnahref01_Implicant.mono _ _ _)
   | (with_reducible exact LeO.refl _)
   | (with_reducible exact LeO.none _)
   | (with_reducible refine LeO.ite ?_ ?_)
   | (with_reducible refine LeO.bind ?_ (fun _=>?_))
   | exact ih0 _ _ _ _ _
   | exact ih1 _ _ _ _ _ _
   | exact ih2 _ _ _ _ _ _
   | exact ih3 _ _ _ _ _ _
   | exact ih4 _ _ _ _ _ _ _
   | exact card_Primes.mono _ _
   | exact numnahlaw01_function.mono _ _ _ _
   | exact numnahlaw01_inside.mono _ _ _
   | exact numnahref01_Covers.mono _ _ _
   | exact numnahref01_Cube.mono _ _ _
   | exact numnahref01_Implicant.mono _ _ _
   | exact LeO.none _
   | refine LeO.ite ?_ ?_
   | refine LeO.bind ?_ (fun _=>?_)
  ·intro y0 y1 y2 y3 y4 y5
   unfold numnahlaw01_CardInside.l1
   repeat' first
   | (with_reducible exact ih0 _ _ _ _ _)
   | (with_reducible exact ih1 _ _ _ _ _ _)
   | (with_reducible exact ih2 _ _ _ _ _ _)
   | (with_reducible exact ih3 _ _ _ _ _ _)
   | (with_reducible exact ih4 _ _ _ _ _ _ _)
   | (with_reducible exact card_Primes.mono _ _)
   | (with_reducible exact numnahlaw01_function.mono _ _ _ _)
   | (with_reducible exact numnahlaw01_inside.mono _ _ _)
   | (with_reducible exact numnahref01_Covers.mono _ _ _)
   | (with_reducible exact numnahref01_Cube.mono _ _ _)
   | (with_reducible exact numnahref01_Implicant.mono _ _ _)
   | (with_reducible exact LeO.refl _)
   | (with_reducible exact LeO.none _)
   | (with_reducible refine LeO.ite ?_ ?_)
   | (with_reducible refine LeO.bind ?_ (fun _=>?_))
   | exact ih0 _ _ _ _ _
   | exact ih1 _ _ _ _ _ _
   | exact ih2 _ _ _ _ _ _
   | exact ih3 _ _ _ _ _ _
   | exact ih4 _ _ _ _ _ _ _
   | exact card_Primes.mono _ _
   | exact numnahlaw01_function.mono _ _ _ _
   | exact numnahlaw01_inside.mono _ _ _
   | exact numnahref01_Covers.mono _ _ _
   | exact numnahref01_Cube.mono _ _ _
   | exact numnahref01_Implicant.mono _ _ _
   | exact LeO.none _
   | refine LeO.ite ?_ ?_
   | refine LeO.bind ?_ (fun _=>?_)
  ·intro y0 y1 y2 y3 y4 y5
   unfold numnahlaw01_CardInside.j3
   repeat' first
   | (with_reducible exact ih0 _ _ _ _ _)
   | (with_reducible exact ih1 _ _ _ _ _ _)
   | (with_reducible exact ih2 _ _ _ _ _ _)
   | (with_reducible exact ih3 _ _ _ _ _ _)
   | (with_reducible exact ih4 _ _ _ _ _ _ _)
   | (with_reducible exact card_Primes.mono _ _)
   | (with_reducible exact numnahlaw01_function.mono _ _ _ _)
   | (with_reducible exact numnahlaw01_inside.mono _ _ _)
   | (with_reducible exact numnahref01_Covers.mono _ _ _)
   | (with_reducible exact numnahref01_Cube.mono _ _ _)
   | (with_reducible exact numnahref01_Implicant.mono _ _ _)
   | (with_reducible exact LeO.refl _)
   | (with_reducible exact LeO.none _)
   | (with_reducible refine LeO.ite ?_ ?_)
   | (with_reducible refine LeO.bind ?_ (fun _=>?_))
   | exact ih0 _ _ _ _ _
   | exact ih1 _ _ _ _ _ _
   | exact ih2 _ _ _ _ _ _
   | exact ih3 _ _ _ _ _ _
   | exact ih4 _ _ _ _ _ _ _
   | exact card_Primes.mono _ _
   | exact numnahlaw01_function.mono _ _ _ _
   | exact numnahlaw01_inside.mono _ _ _
   | exact numnahref01_Covers.mono _ _ _
   | exact numnahref01_Cube.mono _ _ _
   | exact numnahref01_Implicant.mono _ _ _
   | exact LeO.none _
   | refine LeO.ite ?_ ?_
   | refine LeO.bind ?_ (fun _=>?_)
  intro y0 y1 y2 y3 y4 y5 y6
  unfold numnahlaw01_CardInside.l2
  repeat' first
  | (with_reducible exact ih0 _ _ _ _ _)
  | (with_reducible exact ih1 _ _ _ _ _ _)
  | (with_reducible exact ih2 _ _ _ _ _ _)
  | (with_reducible exact ih3 _ _ _ _ _ _)
  | (with_reducible exact ih4 _ _ _ _ _ _ _)
  | (with_reducible exact card_Primes.mono _ _)
  | (with_reducible exact numnahlaw01_function.mono _ _ _ _)
  | (with_reducible exact numnahlaw01_inside.mono _ _ _)
  | (with_reducible exact numnahref01_Covers.mono _ _ _)
  | (with_reducible exact numnahref01_Cube.mono _ _ _)
  | (with_reducible exact numnahref01_Implicant.mono _ _ _)
  | (with_reducible exact LeO.refl _)
  | (with_reducible exact LeO.none _)
  | (with_reducible refine LeO.ite ?_ ?_)
  | (with_reducible refine LeO.bind ?_ (fun _=>?_))
  | exact ih0 _ _ _ _ _
  | exact ih1 _ _ _ _ _ _
  | exact ih2 _ _ _ _ _ _
  | exact ih3 _ _ _ _ _ _
  | exact ih4 _ _ _ _ _ _ _
  | exact card_Primes.mono _ _
  | exact numnahlaw01_function.mono _ _ _ _
  | exact numnahlaw01_inside.mono _ _ _
  | exact numnahref01_Covers.mono _ _ _
  | exact numnahref01_Cube.mono _ _ _
  | exact numnahref01_Implicant.mono _ _ _
  | exact LeO.none _
  | refine LeO.ite ?_ ?_
  | refine LeO.bind ?_ (fun _=>?_)
theorem numnahlaw01_CardInside.mono:∀ a0 a1 a2 k,LeO (numnahlaw01_CardInside.f k a0 a1 a2) (numnahlaw01_CardInside.f (k + 1) a0 a1 a2):=by
 intro a0 a1 a2 k
 obtain ⟨ih0,ih1,ih2,ih3,ih4⟩:=numnahlaw01_CardInside.mono_l k
 unfold numnahlaw01_CardInside.f
 repeat' first
   | (with_reducible exact ih0 _ _ _ _ _)
   | (with_reducible exact ih1 _ _ _ _ _ _)
   | (with_reducible exact ih2 _ _ _ _ _ _)
   | (with_reducible exact ih3 _ _ _ _ _ _)
   | (with_reducible exact ih4 _ _ _ _ _ _ _)
   | (with_reducible exact card_Primes.mono _ _)
   | (with_reducible exact numnahlaw01_function.mono _ _ _ _)
   | (with_reducible exact numnahlaw01_inside.mono _ _ _)
   | (with_reducible exact numnahref01_Covers.mono _ _ _)
   | (with_reducible exact numnahref01_Cube.mono _ _ _)
   | (with_reducible exact numnahref01_Implicant.mono _ _ _)
   | (with_reducible exact LeO.refl _)
   | (with_reducible exact LeO.none _)
   | (with_reducible refine LeO.ite ?_ ?_)
   | (with_reducible refine LeO.bind ?_ (fun _=>?_))
   | exact ih0 _ _ _ _ _
   | exact ih1 _ _ _ _ _ _
   | exact ih2 _ _ _ _ _ _
   | exact ih3 _ _ _ _ _ _
   | exact ih4 _ _ _ _ _ _ _
   | exact card_Primes.mono _ _
   | exact numnahlaw01_function.mono _ _ _ _
   | exact numnahlaw01_inside.mono _ _ _
   | exact numnahref01_Covers.mono _ _ _
   | exact numnahref01_Cube.mono _ _ _
   | exact numnahref01_Implicant.mono _ _ _
   | exact LeO.none _
   | refine LeO.ite ?_ ?_
   | refine LeO.bind ?_ (fun _=>?_)
theorem numnahlaw01_CardInside.calls (k:Nat) (a0:Int) (a1:ByteArray) (a2:ByteArray) (r:Bool) (w:World) (h:numnahlaw01_CardInside.f k a0 a1 a2 = some r) (hrt_:r = true) :
  Calls Try.prog 4 #[.int .i64 a0,.string a1,.string a2] w fun e w'=>e = .returned (.bool r) ∧ Below w.heap.size w w':=by
 have HB:=Aside0.mk (Below.refl w.heap.size w)
 have H:((numnahlaw01_mod.f a0 5).bind fun t225=>((numnahlaw01_function.f k a1 (wrap64 (1 + t225)) 3).bind fun t226=>((card_Primes.f k t226).bind fun bt227=>(if bt227.2 = 0 then (numnahlaw01_CardInside.j0 k (wrap64 (1 + t225)) a2 t226 bt227.1 (decide ((bt227.1.length:Int) > 243))) else (numnahlaw01_CardInside.j0 k (wrap64 (1 + t225)) a2 t226 bt227.1 true))))) = some r:=h
 clear h
 replace H:=Option.bind_eq_some_iff.mp H
 obtain ⟨t225,A40,H⟩:=H
 replace H:((numnahlaw01_function.f k a1 (wrap64 (1 + t225)) 3).bind fun t226=>((card_Primes.f k t226).bind fun bt227=>(if bt227.2 = 0 then (numnahlaw01_CardInside.j0 k (wrap64 (1 + t225)) a2 t226 bt227.1 (decide ((bt227.1.length:Int) > 243))) else (numnahlaw01_CardInside.j0 k (wrap64 (1 + t225)) a2 t226 bt227.1 true)))) = some r:=H
 have A4:=Aside0.mk A40
 clear A40
 replace H:=Option.bind_eq_some_iff.mp H
 obtain ⟨t226,A50,H⟩:=H
 replace H:((card_Primes.f k t226).bind fun bt227=>(if bt227.2 = 0 then (numnahlaw01_CardInside.j0 k (wrap64 (1 + t225)) a2 t226 bt227.1 (decide ((bt227.1.length:Int) > 243))) else (numnahlaw01_CardInside.j0 k (wrap64 (1 + t225)) a2 t226 bt227.1 true))) = some r:=H
 have A5:=Aside0.mk A50
 clear A50
 replace H:=Option.bind_eq_some_iff.mp H
 obtain ⟨⟨t227,t228⟩,A60,H⟩:=H
 replace H:(if t228 = 0 then (numnahlaw01_CardInside.j0 k (wrap64 (1 + t225)) a2 t226 t227 (decide ((t227.length:Int) > 243))) else (numnahlaw01_CardInside.j0 k (wrap64 (1 + t225)) a2 t226 t227 true)) = some r:=H
 have A6:=Aside0.mk A60
 clear A60
 have HC7:=Aside0.mk H
 clear H
 go_enter Try.func4,Try.ntmps4
 go_upto_region 4 with (first | (go_at_call 27;(with_reducible refine (numnahlaw01_mod.calls a0 5 t225 _ A4.out).mono ?_);rintro e w' ⟨rfl,⟨nd,rfl⟩⟩;(try first | exact ⟨rfl,_,World.drewN_drewN _ _ _⟩ | exact ⟨rfl,_,Eq.trans (World.drewN_drewN _ _ _) (congrArg (World.drewN _) (Nat.add_assoc _ _ _))⟩)) | (go_at_call 28;(with_reducible refine (numnahlaw01_function.calls k a1 (wrap64 (1 + t225)) 3 t226 _ A5.out).mono ?_);rintro e w8 ⟨rfl,hb⟩;have n0_:=Aside0.mk (below_step (by repeat (first | (with_reducible first | exact HB.out | apply below_alloc | apply pw_below_drewN | apply below_drew1) | exact HB.out)) hb);clear HB;have HB:=n0_;clear n0_;(try clear hb)) | (go_at_call 29;(with_reducible refine (card_Primes.calls k t226 t227 t228 _ A6.out).mono ?_);rintro e w9 ⟨v229,rfl,ho0,hb⟩;have n0_:=Aside0.mk (Kd.R_lower ho0 (below_size (by repeat (first | (with_reducible first | exact HB.out | apply below_alloc | apply pw_below_drewN | apply below_drew1) | exact HB.out))));have n1_:=Aside0.mk (below_step (by repeat (first | (with_reducible first | exact HB.out | apply below_alloc | apply pw_below_drewN | apply below_drew1) | exact HB.out)) hb);clear HB;have HO230:=n0_;have HB:=n1_;clear n0_ n1_;(try clear hb);(try clear ho0)))
 repeat (go_quiet (first | (go_at_call 27;(with_reducible refine (numnahlaw01_mod.calls a0 5 t225 _ A4.out).mono ?_);rintro e w' ⟨rfl,⟨nd,rfl⟩⟩;(try first | exact ⟨rfl,_,World.drewN_drewN _ _ _⟩ | exact ⟨rfl,_,Eq.trans (World.drewN_drewN _ _ _) (congrArg (World.drewN _) (Nat.add_assoc _ _ _))⟩)) | (go_at_call 28;(with_reducible refine (numnahlaw01_function.calls k a1 (wrap64 (1 + t225)) 3 t226 _ A5.out).mono ?_);rintro e w8 ⟨rfl,hb⟩;have n0_:=Aside0.mk (below_step (by repeat (first | (with_reducible first | exact HB.out | apply below_alloc | apply pw_below_drewN | apply below_drew1) | exact HB.out)) hb);clear HB;have HB:=n0_;clear n0_;(try clear hb)) | (go_at_call 29;(with_reducible refine (card_Primes.calls k t226 t227 t228 _ A6.out).mono ?_);rintro e w9 ⟨v229,rfl,ho0,hb⟩;have n0_:=Aside0.mk (Kd.R_lower ho0 (below_size (by repeat (first | (with_reducible first | exact HB.out | apply below_alloc | apply pw_below_drewN | apply below_drew1) | exact HB.out))));have n1_:=Aside0.mk (below_step (by repeat (first | (with_reducible first | exact HB.out | apply below_alloc | apply pw_below_drewN | apply below_drew1) | exact HB.out)) hb);clear HB;have HO230:=n0_;have HB:=n1_;clear n0_ n1_;(try clear hb);(try clear ho0)));go_upto_region 4 with (first | (go_at_call 27;(with_reducible refine (numnahlaw01_mod.calls a0 5 t225 _ A4.out).mono ?_);rintro e w' ⟨rfl,⟨nd,rfl⟩⟩;(try first | exact ⟨rfl,_,World.drewN_drewN _ _ _⟩ | exact ⟨rfl,_,Eq.trans (World.drewN_drewN _ _ _) (congrArg (World.drewN _) (Nat.add_assoc _ _ _))⟩)) | (go_at_call 28;(with_reducible refine (numnahlaw01_function.calls k a1 (wrap64 (1 + t225)) 3 t226 _ A5.out).mono ?_);rintro e w8 ⟨rfl,hb⟩;have n0_:=Aside0.mk (below_step (by repeat (first | (with_reducible first | exact HB.out | apply below_alloc | apply pw_below_drewN | apply below_drew1) | exact HB.out)) hb);clear HB;have HB:=n0_;clear n0_;(try clear hb)) | (go_at_call 29;(with_reducible refine (card_Primes.calls k t226 t227 t228 _ A6.out).mono ?_);rintro e w9 ⟨v229,rfl,ho0,hb⟩;have n0_:=Aside0.mk (Kd.R_lower ho0 (below_size (by repeat (first | (with_reducible first | exact HB.out | apply below_alloc | apply pw_below_drewN | apply below_drew1) | exact HB.out))));have n1_:=Aside0.mk (below_step (by repeat (first | (with_reducible first | exact HB.out | apply below_alloc | apply pw_below_drewN | apply below_drew1) | exact HB.out)) hb);clear HB;have HO230:=n0_;have HB:=n1_;clear n0_ n1_;(try clear hb);(try clear ho0))))
 (try simp only [Act.put,List.setIfInBounds_toArray,List.set_cons_zero,List.set_cons_succ])
 go_cut [33] (fun v33 wc=>∃ (kq:Nat) (x33_6:Bool),v33 = .bool x33_6 ∧ Aside0 (numnahlaw01_CardInside.j0 kq (wrap64 (1 + t225)) a2 t226 t227 x33_6 = some r) ∧ Aside0 (kq ≤ k) ∧ Aside0 (Kd.R Kd.string 9 wc w.heap.size (fun _=>True) v229 t227) ∧ Aside0 (Below w.heap.size w wc))
 case first =>
  have H:=HC7.out
  clear HC7
  by_cases c10:t228 = 0
  case neg =>
   rw [if_neg c10] at H
   have c10b0:(t228 == 0) = false:=beq_eq_false_iff_ne.mpr c10
   have c10b1:(t228 != 0) = true:=bne_iff_ne.mpr c10
   (first | rw [c10b0] | (simp only [i64_w,i32_w];rw [c10b0]) | skip)
   have H':=Aside0.mk H
   clear H
   go_wp2
   repeat (go_quiet (fail);try go_wp2)
   go_meet
   case rel=>exact ⟨_,(true),(by first | rfl | (simp;done) | (simp [*];done)),H',⟨by first | omega | exact Nat.le_refl _⟩,⟨by (with_reducible repeat (first | apply Kd.R_alloc | apply Kd.R_drewN | apply Kd.R_drew));exact HO230.out⟩,⟨by repeat (first | (with_reducible first | exact HB.out | apply below_alloc | apply pw_below_drewN | apply below_drew1) | exact HB.out)⟩⟩
  rw [if_pos c10] at H
  have c10b0:(t228 == 0) = true:=beq_iff_eq.mpr c10
  have c10b1:(t228 != 0) = false:=bne_eq_false_iff_eq.mpr c10
  clear c10
  (first | rw [c10b0] | (simp only [i64_w,i32_w];rw [c10b0]) | skip)
  have H':=Aside0.mk H
  clear H
  obtain ⟨Ao11,co11,eo11⟩:=Kd.R_slice HO230.out
  subst eo11
  go_wp2
  repeat (go_quiet (fail);try go_wp2)
  go_meet
  case rel=>exact ⟨_,(decide ((t227.length:Int) > 243)),(by first | rfl | (simp;done) | (simp [*];done)),H',⟨by first | omega | exact Nat.le_refl _⟩,⟨by (with_reducible repeat (first | apply Kd.R_alloc | apply Kd.R_drewN | apply Kd.R_drew));exact HO230.out⟩,⟨by repeat (first | (with_reducible first | exact HB.out | apply below_alloc | apply pw_below_drewN | apply below_drew1) | exact HB.out)⟩⟩
 case rest =>
  clear HC7
  try clear c1
  try clear p2
  try clear c4
  try clear p6
  try clear c10
  try clear c10b0
  try clear c10b1
  obtain ⟨kq,x33_6,rfl,HA,HJ6,HO_8,HB⟩:=hcut
  cases kq with
  | zero=>exact absurd HA.out (by simp [numnahlaw01_CardInside.j0])
  | succ kj6 =>
   have H:=HA.out
   clear HA
   simp only [numnahlaw01_CardInside.j0] at H
   by_cases c12:x33_6 = true
   ·subst c12
    have H1:(some false) = some r:=by rw [if_pos rfl] at H;exact H
    clear H
    have H:=H1
    clear H1
    exact absurd ((Option.some.inj H).trans hrt_) (by decide)
   replace c12:=Bool.eq_false_iff.mpr c12
   subst c12
   have H1:(numnahlaw01_CardInside.l0 kj6 (wrap64 (1 + t225)) a2 t226 t227 ([]:List Int) 0) = some r:=by rw [if_neg (show ¬ (false = true) by decide)] at H;exact H
   clear H
   have H:=H1
   clear H1
   have H':=Aside0.mk H
   clear H
   go_wp2
   repeat (go_quiet (fail);try go_wp2)
   go_loopg [10,11] kj6 (fun kq v10 v11 w'=>∃ (x10_2:List Int) (x11_2:Int),v11 = .int .i64 x11_2 ∧ Aside0 (numnahlaw01_CardInside.l0 kq (wrap64 (1 + t225)) a2 t226 t227 x10_2 x11_2 = some r) ∧ Aside0 (kq ≤ kj6) ∧ Aside0 (Kd.R Kd.string 9 w' w.heap.size (fun _=>True) v229 t227) ∧ Aside0 (Kd.R (Kd.int .u8) 5 w' w.heap.size (fun _=>True) v10 x10_2) ∧ Aside0 (Below w.heap.size w w'))
   case atStart=>exact ⟨(([]:List Int)),(0),(by first | rfl | (simp;done) | (simp [*];done)),H',⟨Nat.le_refl _⟩,⟨by (with_reducible repeat (first | apply Kd.R_alloc | apply Kd.R_drewN | apply Kd.R_drew));exact HO_8.out⟩,⟨by first | exact Kd.R_nil _ _ _ _ _ | exact Kd.N_nil _ _ _ _ _ | exact Kd.V_nil _ _ _ _ _ | exact Kd.Q_nil _ _ _ _ _ | exact Kd.S_nil _ _ _ _ _⟩,⟨by repeat (first | (with_reducible first | exact HB.out | apply below_alloc | apply pw_below_drewN | apply below_drew1) | exact HB.out)⟩⟩
   case round =>
    clear H'
    try clear c1
    try clear p2
    try clear c4
    try clear p6
    try clear c10
    try clear c10b0
    try clear c10b1
    try clear c12
    try clear p2
    try clear p6
    obtain ⟨x10_2,x11_2,rfl,HA,HK2,HO_8,HO_10,HB⟩:=hrel
    cases gk with
    | zero=>exact absurd HA.out (by simp [numnahlaw01_CardInside.l0])
    | succ k2 =>
     have H:=HA.out
     clear HA
     simp only [numnahlaw01_CardInside.l0] at H
     by_cases c13:x11_2 < (wrap64 (1 + t225))
     ·rw [if_pos c13] at H
      have c13b0:decide (x11_2 < (wrap64 (1 + t225))) = true:=decide_eq_true c13
      clear c13
      by_cases c14:x11_2 < (a2.size:Int)
      case neg =>
       rw [if_neg c14] at H
       have c14b0:decide (x11_2 < (a2.size:Int)) = false:=decide_eq_false c14
       clear c14
       by_cases c23:0 < 3
       case neg =>
        rw [if_neg c23] at H
        exact absurd H (by simp)
       rw [if_pos c23] at H
       have c23b0:decide (0 < 3) = true:=decide_eq_true c23
       clear c23
       by_cases c25:x10_2.length < 140737488355328
       case neg =>
        rw [if_neg c25] at H
        exact absurd H (by simp)
       rw [if_pos c25] at H
       have LMc25:=Aside0.mk c25
       clear c25
       obtain ⟨y234,hy234⟩:∃ y_:List Int,y_ = (x10_2 ++ [bt (⟨#[45,48,49]⟩:ByteArray) 0]):=⟨_,rfl⟩
       replace H:(numnahlaw01_CardInside.l0 k2 (wrap64 (1 + t225)) a2 t226 t227 y234 (wrap64 (x11_2 + 1))) = some r:=by first | (rw [hy234];with_reducible exact H) | (have H2_:=(Option.bind_some _ _).symm.trans H;rw [hy234];with_reducible exact H2_) | (have H2_:=(Option.bind_some _ _).symm.trans H;with_reducible exact H2_) | with_reducible exact H | (rw [hy234];exact H) | exact H
       have Ny234:=Aside0.mk hy234
       clear hy234
       have H':=Aside0.mk H
       clear H
       have p24:0 ≤ (0:Int):=(by omega)
       have q24:0 < (3:Int):=(by omega)
       have hx24:=bt_at (⟨#[45,48,49]⟩:ByteArray) 0
       replace p24:=eq_true p24
       replace q24:=eq_true q24
       go_wp2_with (first | ((with_reducible refine gate_builtin (b:=.append) (xs:=#[.tmp 48,.tmp 51]) rfl ?_);(try (refine gate_guard (by rfl) ?_;dsimp only));at_builtin;refine Kd.R_append (Kd.int .u8) (w0:=w) w.heap.size rfl (.tmp 48) (.tmp 51) 42 5 (.int .u8 0) 1 rfl Try.underlying42 info5 rfl (by decide) (by omega) u10 x10_2 (bt (⟨#[45,48,49]⟩:ByteArray) 0) [.int .u8 (bt (⟨#[45,48,49]⟩:ByteArray) 0)] (fun _=>True) (fun _=>False) rfl rfl ?aP (fun _ hk=>hk.elim) ?aF ?aO ?aB ?aS ?aL ?_;(case aP=>exact rfl);(case aB=>exact (by repeat (first | (with_reducible first | exact HB.out | apply below_alloc | apply pw_below_drewN | apply below_drew1) | exact HB.out)));(case aF=>exact (fun _ _=>trivial));(case aO=>exact (by (with_reducible repeat (first | apply Kd.R_alloc | apply Kd.R_drewN | apply Kd.R_drew));exact HO_10.out));(case aS=>exact (below_size (by repeat (first | (with_reducible first | exact HB.out | apply below_alloc | apply pw_below_drewN | apply below_drew1) | exact HB.out))));(case aL=>have:=LMc25.out;omega);intro v235 w26 ho hb hg hat;rw [← Ny234.out] at ho;have n0_:=Aside0.mk (Kd.R_over' (by (with_reducible repeat (first | apply Kd.R_alloc | apply Kd.R_drewN | apply Kd.R_drew));exact HO_8.out) (Kd.R_typed (by (with_reducible repeat (first | apply Kd.R_alloc | apply Kd.R_drewN | apply Kd.R_drew));exact HO_10.out)) (by decide) hg);have n1_:=Aside0.mk (hb);have n2_:=Aside0.mk (ho);clear HO_8;clear HB;clear HO_10;have HO_8:=n0_;have HB:=n1_;have HO236:=n2_;clear n0_ n1_ n2_;clear ho hb hg hat))
       repeat (go_quiet (first | ((with_reducible refine gate_builtin (b:=.append) (xs:=#[.tmp 48,.tmp 51]) rfl ?_);(try (refine gate_guard (by rfl) ?_;dsimp only));at_builtin;refine Kd.R_append (Kd.int .u8) (w0:=w) w.heap.size rfl (.tmp 48) (.tmp 51) 42 5 (.int .u8 0) 1 rfl Try.underlying42 info5 rfl (by decide) (by omega) u10 x10_2 (bt (⟨#[45,48,49]⟩:ByteArray) 0) [.int .u8 (bt (⟨#[45,48,49]⟩:ByteArray) 0)] (fun _=>True) (fun _=>False) rfl rfl ?aP (fun _ hk=>hk.elim) ?aF ?aO ?aB ?aS ?aL ?_;(case aP=>exact rfl);(case aB=>exact (by repeat (first | (with_reducible first | exact HB.out | apply below_alloc | apply pw_below_drewN | apply below_drew1) | exact HB.out)));(case aF=>exact (fun _ _=>trivial));(case aO=>exact (by (with_reducible repeat (first | apply Kd.R_alloc | apply Kd.R_drewN | apply Kd.R_drew));exact HO_10.out));(case aS=>exact (below_size (by repeat (first | (with_reducible first | exact HB.out | apply below_alloc | apply pw_below_drewN | apply below_drew1) | exact HB.out))));(case aL=>have:=LMc25.out;omega);intro v235 w26 ho hb hg hat;rw [← Ny234.out] at ho;have n0_:=Aside0.mk (Kd.R_over' (by (with_reducible repeat (first | apply Kd.R_alloc | apply Kd.R_drewN | apply Kd.R_drew));exact HO_8.out) (Kd.R_typed (by (with_reducible repeat (first | apply Kd.R_alloc | apply Kd.R_drewN | apply Kd.R_drew));exact HO_10.out)) (by decide) hg);have n1_:=Aside0.mk (hb);have n2_:=Aside0.mk (ho);clear HO_8;clear HB;clear HO_10;have HO_8:=n0_;have HB:=n1_;have HO236:=n2_;clear n0_ n1_ n2_;clear ho hb hg hat));try go_wp2_with (first | ((with_reducible refine gate_builtin (b:=.append) (xs:=#[.tmp 48,.tmp 51]) rfl ?_);(try (refine gate_guard (by rfl) ?_;dsimp only));at_builtin;refine Kd.R_append (Kd.int .u8) (w0:=w) w.heap.size rfl (.tmp 48) (.tmp 51) 42 5 (.int .u8 0) 1 rfl Try.underlying42 info5 rfl (by decide) (by omega) u10 x10_2 (bt (⟨#[45,48,49]⟩:ByteArray) 0) [.int .u8 (bt (⟨#[45,48,49]⟩:ByteArray) 0)] (fun _=>True) (fun _=>False) rfl rfl ?aP (fun _ hk=>hk.elim) ?aF ?aO ?aB ?aS ?aL ?_;(case aP=>exact rfl);(case aB=>exact (by repeat (first | (with_reducible first | exact HB.out | apply below_alloc | apply pw_below_drewN | apply below_drew1) | exact HB.out)));(case aF=>exact (fun _ _=>trivial));(case aO=>exact (by (with_reducible repeat (first | apply Kd.R_alloc | apply Kd.R_drewN | apply Kd.R_drew));exact HO_10.out));(case aS=>exact (below_size (by repeat (first | (with_reducible first | exact HB.out | apply below_alloc | apply pw_below_drewN | apply below_drew1) | exact HB.out))));(case aL=>have:=LMc25.out;omega);intro v235 w26 ho hb hg hat;rw [← Ny234.out] at ho;have n0_:=Aside0.mk (Kd.R_over' (by (with_reducible repeat (first | apply Kd.R_alloc | apply Kd.R_drewN | apply Kd.R_drew));exact HO_8.out) (Kd.R_typed (by (with_reducible repeat (first | apply Kd.R_alloc | apply Kd.R_drewN | apply Kd.R_drew));exact HO_10.out)) (by decide) hg);have n1_:=Aside0.mk (hb);have n2_:=Aside0.mk (ho);clear HO_8;clear HB;clear HO_10;have HO_8:=n0_;have HB:=n1_;have HO236:=n2_;clear n0_ n1_ n2_;clear ho hb hg hat)))
       go_roundg k2
       case measure=>have:=HJ6.out;have:=HK2.out;omega
       case rel=>exact ⟨(y234),(wrap64 (x11_2 + 1)),(by first | rfl | (simp;done) | (simp [*];done)),H',⟨by have:=HJ6.out;have:=HK2.out;omega⟩,⟨by (with_reducible repeat (first | apply Kd.R_alloc | apply Kd.R_drewN | apply Kd.R_drew));exact HO_8.out⟩,⟨by (with_reducible repeat (first | apply Kd.R_alloc | apply Kd.R_drewN | apply Kd.R_drew));exact HO236.out⟩,⟨by repeat (first | (with_reducible first | exact HB.out | apply below_alloc | apply pw_below_drewN | apply below_drew1) | exact HB.out)⟩⟩
      rw [if_pos c14] at H
      have c14b0:decide (x11_2 < (a2.size:Int)) = true:=decide_eq_true c14
      clear c14
      by_cases c15:0 ≤ x11_2
      case neg =>
       rw [if_neg c15] at H
       exact absurd H (by simp)
      rw [if_pos c15] at H
      have c15b0:decide (0 ≤ x11_2) = true:=decide_eq_true c15
      clear c15
      obtain ⟨ji17,hji17⟩:∃ j_:Int,(Int.tmod (wrap64 (bt a2 x11_2)) 3) = j_:=⟨_,rfl⟩
      replace H:(if 0 ≤ (ji17) then (if (ji17) < 3 then (if x10_2.length < 140737488355328 then (numnahlaw01_CardInside.l0 k2 (wrap64 (1 + t225)) a2 t226 t227 (x10_2 ++ [bt (⟨#[45,48,49]⟩:ByteArray) (ji17)]) (wrap64 (x11_2 + 1))) else (none)) else (none)) else (none)) = some r:=by first | (rw [hji17] at H;exact H) | (simp only [hji17] at H ⊢;exact H)
      by_cases c18:0 ≤ (ji17)
      case neg =>
       rw [if_neg c18] at H
       exact absurd H (by simp)
      rw [if_pos c18] at H
      have c18b0:decide (0 ≤ (ji17)) = true:=decide_eq_true c18
      clear c18
      by_cases c19:(ji17) < 3
      case neg =>
       rw [if_neg c19] at H
       exact absurd H (by simp)
      rw [if_pos c19] at H
      have c19b0:decide ((ji17) < 3) = true:=decide_eq_true c19
      clear c19
      by_cases c21:x10_2.length < 140737488355328
      case neg =>
       rw [if_neg c21] at H
       exact absurd H (by simp)
      rw [if_pos c21] at H
      have LMc21:=Aside0.mk c21
      clear c21
      obtain ⟨y231,hy231⟩:∃ y_:List Int,y_ = (x10_2 ++ [bt (⟨#[45,48,49]⟩:ByteArray) (ji17)]):=⟨_,rfl⟩
      replace H:(numnahlaw01_CardInside.l0 k2 (wrap64 (1 + t225)) a2 t226 t227 y231 (wrap64 (x11_2 + 1))) = some r:=by first | (rw [hy231];with_reducible exact H) | (have H2_:=(Option.bind_some _ _).symm.trans H;rw [hy231];with_reducible exact H2_) | (have H2_:=(Option.bind_some _ _).symm.trans H;with_reducible exact H2_) | with_reducible exact H | (rw [hy231];exact H) | exact H
      have Ny231:=Aside0.mk hy231
      clear hy231
      have H':=Aside0.mk H
      clear H
      have p16:0 ≤ (x11_2:Int):=of_decide_eq_true (by first | (with_reducible assumption) | assumption)
      have q16:x11_2 < (a2.size:Int):=of_decide_eq_true (by first | (with_reducible assumption) | assumption)
      have hx16:=bt_at a2 x11_2
      replace p16:=eq_true p16
      replace q16:=eq_true q16
      have p20:0 ≤ ((ji17):Int):=of_decide_eq_true (by first | (with_reducible assumption) | assumption)
      have q20:(ji17) < (3:Int):=of_decide_eq_true (by first | (with_reducible assumption) | assumption)
      have hx20:=bt_at (⟨#[45,48,49]⟩:ByteArray) (ji17)
      replace p20:=eq_true p20
      replace q20:=eq_true q20
      go_wp2_with (first | ((with_reducible refine gate_builtin (b:=.append) (xs:=#[.tmp 48,.tmp 51]) rfl ?_);(try (refine gate_guard (by rfl) ?_;dsimp only));at_builtin;refine Kd.R_append (Kd.int .u8) (w0:=w) w.heap.size rfl (.tmp 48) (.tmp 51) 42 5 (.int .u8 0) 1 rfl Try.underlying42 info5 rfl (by decide) (by omega) u10 x10_2 (bt (⟨#[45,48,49]⟩:ByteArray) (ji17)) [.int .u8 (bt (⟨#[45,48,49]⟩:ByteArray) (ji17))] (fun _=>True) (fun _=>False) rfl rfl ?aP (fun _ hk=>hk.elim) ?aF ?aO ?aB ?aS ?aL ?_;(case aP=>exact rfl);(case aB=>exact (by repeat (first | (with_reducible first | exact HB.out | apply below_alloc | apply pw_below_drewN | apply below_drew1) | exact HB.out)));(case aF=>exact (fun _ _=>trivial));(case aO=>exact (by (with_reducible repeat (first | apply Kd.R_alloc | apply Kd.R_drewN | apply Kd.R_drew));exact HO_10.out));(case aS=>exact (below_size (by repeat (first | (with_reducible first | exact HB.out | apply below_alloc | apply pw_below_drewN | apply below_drew1) | exact HB.out))));(case aL=>have:=LMc21.out;omega);intro v232 w22 ho hb hg hat;rw [← Ny231.out] at ho;have n0_:=Aside0.mk (Kd.R_over' (by (with_reducible repeat (first | apply Kd.R_alloc | apply Kd.R_drewN | apply Kd.R_drew));exact HO_8.out) (Kd.R_typed (by (with_reducible repeat (first | apply Kd.R_alloc | apply Kd.R_drewN | apply Kd.R_drew));exact HO_10.out)) (by decide) hg);have n1_:=Aside0.mk (hb);have n2_:=Aside0.mk (ho);clear HO_8;clear HB;clear HO_10;have HO_8:=n0_;have HB:=n1_;have HO233:=n2_;clear n0_ n1_ n2_;clear ho hb hg hat))
      repeat (go_quiet (first | ((with_reducible refine gate_builtin (b:=.append) (xs:=#[.tmp 48,.tmp 51]) rfl ?_);(try (refine gate_guard (by rfl) ?_;dsimp only));at_builtin;refine Kd.R_append (Kd.int .u8) (w0:=w) w.heap.size rfl (.tmp 48) (.tmp 51) 42 5 (.int .u8 0) 1 rfl Try.underlying42 info5 rfl (by decide) (by omega) u10 x10_2 (bt (⟨#[45,48,49]⟩:ByteArray) (ji17)) [.int .u8 (bt (⟨#[45,48,49]⟩:ByteArray) (ji17))] (fun _=>True) (fun _=>False) rfl rfl ?aP (fun _ hk=>hk.elim) ?aF ?aO ?aB ?aS ?aL ?_;(case aP=>exact rfl);(case aB=>exact (by repeat (first | (with_reducible first | exact HB.out | apply below_alloc | apply pw_below_drewN | apply below_drew1) | exact HB.out)));(case aF=>exact (fun _ _=>trivial));(case aO=>exact (by (with_reducible repeat (first | apply Kd.R_alloc | apply Kd.R_drewN | apply Kd.R_drew));exact HO_10.out));(case aS=>exact (below_size (by repeat (first | (with_reducible first | exact HB.out | apply below_alloc | apply pw_below_drewN | apply below_drew1) | exact HB.out))));(case aL=>have:=LMc21.out;omega);intro v232 w22 ho hb hg hat;rw [← Ny231.out] at ho;have n0_:=Aside0.mk (Kd.R_over' (by (with_reducible repeat (first | apply Kd.R_alloc | apply Kd.R_drewN | apply Kd.R_drew));exact HO_8.out) (Kd.R_typed (by (with_reducible repeat (first | apply Kd.R_alloc | apply Kd.R_drewN | apply Kd.R_drew));exact HO_10.out)) (by decide) hg);have n1_:=Aside0.mk (hb);have n2_:=Aside0.mk (ho);clear HO_8;clear HB;clear HO_10;have HO_8:=n0_;have HB:=n1_;have HO233:=n2_;clear n0_ n1_ n2_;clear ho hb hg hat));try go_wp2_with (first | ((with_reducible refine gate_builtin (b:=.append) (xs:=#[.tmp 48,.tmp 51]) rfl ?_);(try (refine gate_guard (by rfl) ?_;dsimp only));at_builtin;refine Kd.R_append (Kd.int .u8) (w0:=w) w.heap.size rfl (.tmp 48) (.tmp 51) 42 5 (.int .u8 0) 1 rfl Try.underlying42 info5 rfl (by decide) (by omega) u10 x10_2 (bt (⟨#[45,48,49]⟩:ByteArray) (ji17)) [.int .u8 (bt (⟨#[45,48,49]⟩:ByteArray) (ji17))] (fun _=>True) (fun _=>False) rfl rfl ?aP (fun _ hk=>hk.elim) ?aF ?aO ?aB ?aS ?aL ?_;(case aP=>exact rfl);(case aB=>exact (by repeat (first | (with_reducible first | exact HB.out | apply below_alloc | apply pw_below_drewN | apply below_drew1) | exact HB.out)));(case aF=>exact (fun _ _=>trivial));(case aO=>exact (by (with_reducible repeat (first | apply Kd.R_alloc | apply Kd.R_drewN | apply Kd.R_drew));exact HO_10.out));(case aS=>exact (below_size (by repeat (first | (with_reducible first | exact HB.out | apply below_alloc | apply pw_below_drewN | apply below_drew1) | exact HB.out))));(case aL=>have:=LMc21.out;omega);intro v232 w22 ho hb hg hat;rw [← Ny231.out] at ho;have n0_:=Aside0.mk (Kd.R_over' (by (with_reducible repeat (first | apply Kd.R_alloc | apply Kd.R_drewN | apply Kd.R_drew));exact HO_8.out) (Kd.R_typed (by (with_reducible repeat (first | apply Kd.R_alloc | apply Kd.R_drewN | apply Kd.R_drew));exact HO_10.out)) (by decide) hg);have n1_:=Aside0.mk (hb);have n2_:=Aside0.mk (ho);clear HO_8;clear HB;clear HO_10;have HO_8:=n0_;have HB:=n1_;have HO233:=n2_;clear n0_ n1_ n2_;clear ho hb hg hat)))
      go_roundg k2
      case measure=>have:=HJ6.out;have:=HK2.out;omega
      case rel=>exact ⟨(y231),(wrap64 (x11_2 + 1)),(by first | rfl | (simp;done) | (simp [*];done)),H',⟨by have:=HJ6.out;have:=HK2.out;omega⟩,⟨by (with_reducible repeat (first | apply Kd.R_alloc | apply Kd.R_drewN | apply Kd.R_drew));exact HO_8.out⟩,⟨by (with_reducible repeat (first | apply Kd.R_alloc | apply Kd.R_drewN | apply Kd.R_drew));exact HO233.out⟩,⟨by repeat (first | (with_reducible first | exact HB.out | apply below_alloc | apply pw_below_drewN | apply below_drew1) | exact HB.out)⟩⟩
     rw [if_neg c13] at H
     have c13b0:decide (x11_2 < (wrap64 (1 + t225))) = false:=decide_eq_false c13
     clear c13
     have H':=Aside0.mk H
     clear H
     go_wp2
     repeat (go_quiet (fail);try go_wp2)
     go_loopg [13,14] k2 (fun kq v13 v14 w'=>∃ (x13_3:Bool) (x14_3:Int),v13 = .bool x13_3 ∧ v14 = .int .i64 x14_3 ∧ Aside0 (numnahlaw01_CardInside.l1 kq (wrap64 (1 + t225)) t226 t227 x10_2 x13_3 x14_3 = some r) ∧ Aside0 (kq ≤ k2) ∧ Aside0 (Kd.R Kd.string 9 w' w.heap.size (fun _=>True) v229 t227) ∧ Aside0 (Kd.R (Kd.int .u8) 5 w' w.heap.size (fun _=>True) u10 x10_2) ∧ Aside0 (Below w.heap.size w w'))
     case atStart=>exact ⟨(false),(0),(by first | rfl | (simp;done) | (simp [*];done)),(by first | rfl | (simp;done) | (simp [*];done)),H',⟨Nat.le_refl _⟩,⟨by (with_reducible repeat (first | apply Kd.R_alloc | apply Kd.R_drewN | apply Kd.R_drew));exact HO_8.out⟩,⟨by (with_reducible repeat (first | apply Kd.R_alloc | apply Kd.R_drewN | apply Kd.R_drew));exact HO_10.out⟩,⟨by repeat (first | (with_reducible first | exact HB.out | apply below_alloc | apply pw_below_drewN | apply below_drew1) | exact HB.out)⟩⟩
     case round =>
      clear H'
      try clear c1
      try clear p1
      try clear q1
      try clear hx1
      try clear c2
      try clear p2
      try clear q2
      try clear hx2
      try clear c4
      try clear p6
      try clear c10
      try clear c10b0
      try clear c10b1
      try clear c12
      try clear c13
      try clear c13b0
      try clear c14
      try clear c14b0
      try clear c15
      try clear c15b0
      try clear p16
      try clear q16
      try clear hx16
      try clear c18
      try clear c18b0
      try clear c19
      try clear c19b0
      try clear p20
      try clear q20
      try clear hx20
      try clear c21
      try clear c23
      try clear c23b0
      try clear p24
      try clear q24
      try clear hx24
      try clear c25
      try clear p16
      try clear p2
      try clear p20
      try clear p24
      try clear p6
      try clear q16
      try clear q20
      try clear q24
      obtain ⟨x13_3,x14_3,rfl,rfl,HA,HK3,HO_8,HO_10,HB⟩:=hrel
      cases gk with
      | zero=>exact absurd HA.out (by simp [numnahlaw01_CardInside.l1])
      | succ k3 =>
       have H:=HA.out
       clear HA
       simp only [numnahlaw01_CardInside.l1] at H
       by_cases c27:x14_3 < (t227.length:Int)
       case neg =>
        rw [if_neg c27] at H
        have c27b0:decide (x14_3 < (t227.length:Int)) = false:=decide_eq_false c27
        clear c27
        by_cases c44:x13_3 = true
        ·subst c44
         have H1:((numnahref01_Covers.f k3 t226 t227).bind fun t237=>(if t237 = true then ((numnahlaw01_awake.f).bind fun t238=>(some t238)) else (some false))) = some r:=by rw [if_pos rfl] at H;exact H
         clear H
         have H:=H1
         clear H1
         replace H:=Option.bind_eq_some_iff.mp H
         obtain ⟨t237,A450,H⟩:=H
         replace H:(if t237 = true then ((numnahlaw01_awake.f).bind fun t238=>(some t238)) else (some false)) = some r:=H
         have A45:=Aside0.mk A450
         clear A450
         by_cases c46:t237 = true
         case neg =>
          replace c46:=Bool.eq_false_iff.mpr c46
          subst c46
          have H1:(some false) = some r:=by rw [if_neg (show ¬ (false = true) by decide)] at H;exact H
          clear H
          have H:=H1
          clear H1
          exact absurd ((Option.some.inj H).trans hrt_) (by decide)
         subst c46
         have H1:((numnahlaw01_awake.f).bind fun t238=>(some t238)) = some r:=by rw [if_pos rfl] at H;exact H
         clear H
         have H:=H1
         clear H1
         replace H:=Option.bind_eq_some_iff.mp H
         obtain ⟨t238,A470,H⟩:=H
         replace H:(some t238) = some r:=H
         have A47:=Aside0.mk A470
         clear A470
         obtain rfl:=Option.some.inj H
         obtain ⟨Ao48,co48,eo48⟩:=Kd.R_slice HO_8.out
         subst eo48
         go_wp2_with (first | (go_at_call 33;(with_reducible refine (numnahref01_Covers.calls k3 t226 _ _ t227 true _ ?side1 ?side2 A45.out).mono ?_);(case side1=>repeat (first | exact (Kd.R_reads' HO_8.out).2.2 | (with_reducible refine Kd.C_alloc ?_ _) | (with_reducible refine Kd.C_drewN ?_ _) | (with_reducible refine Kd.C_drew ?_)));(case side2=>exact (Kd.R_reads' HO_8.out).2.1);rintro e w' ⟨rfl,⟨nd,rfl⟩⟩;(try first | exact ⟨rfl,_,World.drewN_drewN _ _ _⟩ | exact ⟨rfl,_,Eq.trans (World.drewN_drewN _ _ _) (congrArg (World.drewN _) (Nat.add_assoc _ _ _))⟩)) | (go_at_call 22;(with_reducible refine (numnahlaw01_awake.calls  t238 _ A47.out).mono ?_);rintro e w49 ⟨rfl,hb⟩;have n0_:=Aside0.mk (Kd.R_below (by (with_reducible repeat (first | apply Kd.R_alloc | apply Kd.R_drewN | apply Kd.R_drew));exact HO_8.out) hb);have n1_:=Aside0.mk (Kd.R_below (by (with_reducible repeat (first | apply Kd.R_alloc | apply Kd.R_drewN | apply Kd.R_drew));exact HO_10.out) hb);have n2_:=Aside0.mk (below_step (by repeat (first | (with_reducible first | exact HB.out | apply below_alloc | apply pw_below_drewN | apply below_drew1) | exact HB.out)) hb);clear HO_8;clear HO_10;clear HB;have HO_8:=n0_;have HO_10:=n1_;have HB:=n2_;clear n0_ n1_ n2_;(try clear hb)))
         repeat (go_quiet (first | (go_at_call 33;(with_reducible refine (numnahref01_Covers.calls k3 t226 _ _ t227 true _ ?side1 ?side2 A45.out).mono ?_);(case side1=>repeat (first | exact (Kd.R_reads' HO_8.out).2.2 | (with_reducible refine Kd.C_alloc ?_ _) | (with_reducible refine Kd.C_drewN ?_ _) | (with_reducible refine Kd.C_drew ?_)));(case side2=>exact (Kd.R_reads' HO_8.out).2.1);rintro e w' ⟨rfl,⟨nd,rfl⟩⟩;(try first | exact ⟨rfl,_,World.drewN_drewN _ _ _⟩ | exact ⟨rfl,_,Eq.trans (World.drewN_drewN _ _ _) (congrArg (World.drewN _) (Nat.add_assoc _ _ _))⟩)) | (go_at_call 22;(with_reducible refine (numnahlaw01_awake.calls  t238 _ A47.out).mono ?_);rintro e w49 ⟨rfl,hb⟩;have n0_:=Aside0.mk (Kd.R_below (by (with_reducible repeat (first | apply Kd.R_alloc | apply Kd.R_drewN | apply Kd.R_drew));exact HO_8.out) hb);have n1_:=Aside0.mk (Kd.R_below (by (with_reducible repeat (first | apply Kd.R_alloc | apply Kd.R_drewN | apply Kd.R_drew));exact HO_10.out) hb);have n2_:=Aside0.mk (below_step (by repeat (first | (with_reducible first | exact HB.out | apply below_alloc | apply pw_below_drewN | apply below_drew1) | exact HB.out)) hb);clear HO_8;clear HO_10;clear HB;have HO_8:=n0_;have HO_10:=n1_;have HB:=n2_;clear n0_ n1_ n2_;(try clear hb)));try go_wp2_with (first | (go_at_call 33;(with_reducible refine (numnahref01_Covers.calls k3 t226 _ _ t227 true _ ?side1 ?side2 A45.out).mono ?_);(case side1=>repeat (first | exact (Kd.R_reads' HO_8.out).2.2 | (with_reducible refine Kd.C_alloc ?_ _) | (with_reducible refine Kd.C_drewN ?_ _) | (with_reducible refine Kd.C_drew ?_)));(case side2=>exact (Kd.R_reads' HO_8.out).2.1);rintro e w' ⟨rfl,⟨nd,rfl⟩⟩;(try first | exact ⟨rfl,_,World.drewN_drewN _ _ _⟩ | exact ⟨rfl,_,Eq.trans (World.drewN_drewN _ _ _) (congrArg (World.drewN _) (Nat.add_assoc _ _ _))⟩)) | (go_at_call 22;(with_reducible refine (numnahlaw01_awake.calls  t238 _ A47.out).mono ?_);rintro e w49 ⟨rfl,hb⟩;have n0_:=Aside0.mk (Kd.R_below (by (with_reducible repeat (first | apply Kd.R_alloc | apply Kd.R_drewN | apply Kd.R_drew));exact HO_8.out) hb);have n1_:=Aside0.mk (Kd.R_below (by (with_reducible repeat (first | apply Kd.R_alloc | apply Kd.R_drewN | apply Kd.R_drew));exact HO_10.out) hb);have n2_:=Aside0.mk (below_step (by repeat (first | (with_reducible first | exact HB.out | apply below_alloc | apply pw_below_drewN | apply below_drew1) | exact HB.out)) hb);clear HO_8;clear HO_10;clear HB;have HO_8:=n0_;have HO_10:=n1_;have HB:=n2_;clear n0_ n1_ n2_;(try clear hb))))
         go_ret
         exact ⟨by first | rfl | (simp [errW_none,errW_some] <;> rfl) | (simp [*,errW_none,errW_some] <;> rfl),by repeat (first | (with_reducible first | exact HB.out | apply below_alloc | apply pw_below_drewN | apply below_drew1) | exact HB.out)⟩
        replace c44:=Bool.eq_false_iff.mpr c44
        subst c44
        have H1:((numnahref01_Implicant.f k3 t226 (strOfNums x10_2)).bind fun t239=>(if t239 = true then (some false) else ((numnahref01_Covers.f k3 t226 t227).bind fun t240=>(if t240 = true then ((numnahlaw01_awake.f).bind fun t241=>(some t241)) else (some false))))) = some r:=by rw [if_neg (show ¬ (false = true) by decide)] at H;exact H
        clear H
        have H:=H1
        clear H1
        replace H:=Option.bind_eq_some_iff.mp H
        obtain ⟨t239,A510,H⟩:=H
        replace H:(if t239 = true then (some false) else ((numnahref01_Covers.f k3 t226 t227).bind fun t240=>(if t240 = true then ((numnahlaw01_awake.f).bind fun t241=>(some t241)) else (some false)))) = some r:=H
        have A51:=Aside0.mk A510
        clear A510
        by_cases c52:t239 = true
        ·subst c52
         have H1:(some false) = some r:=by rw [if_pos rfl] at H;exact H
         clear H
         have H:=H1
         clear H1
         exact absurd ((Option.some.inj H).trans hrt_) (by decide)
        replace c52:=Bool.eq_false_iff.mpr c52
        subst c52
        have H1:((numnahref01_Covers.f k3 t226 t227).bind fun t240=>(if t240 = true then ((numnahlaw01_awake.f).bind fun t241=>(some t241)) else (some false))) = some r:=by rw [if_neg (show ¬ (false = true) by decide)] at H;exact H
        clear H
        have H:=H1
        clear H1
        replace H:=Option.bind_eq_some_iff.mp H
        obtain ⟨t240,A550,H⟩:=H
        replace H:(if t240 = true then ((numnahlaw01_awake.f).bind fun t241=>(some t241)) else (some false)) = some r:=H
        have A55:=Aside0.mk A550
        clear A550
        by_cases c56:t240 = true
        case neg =>
         replace c56:=Bool.eq_false_iff.mpr c56
         subst c56
         have H1:(some false) = some r:=by rw [if_neg (show ¬ (false = true) by decide)] at H;exact H
         clear H
         have H:=H1
         clear H1
         exact absurd ((Option.some.inj H).trans hrt_) (by decide)
        subst c56
        have H1:((numnahlaw01_awake.f).bind fun t241=>(some t241)) = some r:=by rw [if_pos rfl] at H;exact H
        clear H
        have H:=H1
        clear H1
        replace H:=Option.bind_eq_some_iff.mp H
        obtain ⟨t241,A570,H⟩:=H
        replace H:(some t241) = some r:=H
        have A57:=Aside0.mk A570
        clear A570
        obtain rfl:=Option.some.inj H
        obtain ⟨Ao58,co58,eo58⟩:=Kd.R_slice HO_8.out
        subst eo58
        have hcv59:=own_string (P:=Try.prog) Try.underlying42 Try.underlying5 Try.underlying9 (Kd.own_of_R HO_10.out)
        go_wp2_with (first | (go_at_call 32;(with_reducible refine (numnahref01_Implicant.calls k3 t226 (strOfNums x10_2) false _ A51.out).mono ?_);rintro e w' ⟨rfl,⟨nd,rfl⟩⟩;(try first | exact ⟨rfl,_,World.drewN_drewN _ _ _⟩ | exact ⟨rfl,_,Eq.trans (World.drewN_drewN _ _ _) (congrArg (World.drewN _) (Nat.add_assoc _ _ _))⟩)) | (go_at_call 33;(with_reducible refine (numnahref01_Covers.calls k3 t226 _ _ t227 true _ ?side1 ?side2 A55.out).mono ?_);(case side1=>repeat (first | exact (Kd.R_reads' HO_8.out).2.2 | (with_reducible refine Kd.C_alloc ?_ _) | (with_reducible refine Kd.C_drewN ?_ _) | (with_reducible refine Kd.C_drew ?_)));(case side2=>exact (Kd.R_reads' HO_8.out).2.1);rintro e w' ⟨rfl,⟨nd,rfl⟩⟩;(try first | exact ⟨rfl,_,World.drewN_drewN _ _ _⟩ | exact ⟨rfl,_,Eq.trans (World.drewN_drewN _ _ _) (congrArg (World.drewN _) (Nat.add_assoc _ _ _))⟩)) | (go_at_call 22;(with_reducible refine (numnahlaw01_awake.calls  t241 _ A57.out).mono ?_);rintro e w60 ⟨rfl,hb⟩;have n0_:=Aside0.mk (Kd.R_below (by (with_reducible repeat (first | apply Kd.R_alloc | apply Kd.R_drewN | apply Kd.R_drew));exact HO_8.out) hb);have n1_:=Aside0.mk (Kd.R_below (by (with_reducible repeat (first | apply Kd.R_alloc | apply Kd.R_drewN | apply Kd.R_drew));exact HO_10.out) hb);have n2_:=Aside0.mk (below_step (by repeat (first | (with_reducible first | exact HB.out | apply below_alloc | apply pw_below_drewN | apply below_drew1) | exact HB.out)) hb);clear HO_8;clear HO_10;clear HB;have HO_8:=n0_;have HO_10:=n1_;have HB:=n2_;clear n0_ n1_ n2_;(try clear hb)))
        repeat (go_quiet (first | (go_at_call 32;(with_reducible refine (numnahref01_Implicant.calls k3 t226 (strOfNums x10_2) false _ A51.out).mono ?_);rintro e w' ⟨rfl,⟨nd,rfl⟩⟩;(try first | exact ⟨rfl,_,World.drewN_drewN _ _ _⟩ | exact ⟨rfl,_,Eq.trans (World.drewN_drewN _ _ _) (congrArg (World.drewN _) (Nat.add_assoc _ _ _))⟩)) | (go_at_call 33;(with_reducible refine (numnahref01_Covers.calls k3 t226 _ _ t227 true _ ?side1 ?side2 A55.out).mono ?_);(case side1=>repeat (first | exact (Kd.R_reads' HO_8.out).2.2 | (with_reducible refine Kd.C_alloc ?_ _) | (with_reducible refine Kd.C_drewN ?_ _) | (with_reducible refine Kd.C_drew ?_)));(case side2=>exact (Kd.R_reads' HO_8.out).2.1);rintro e w' ⟨rfl,⟨nd,rfl⟩⟩;(try first | exact ⟨rfl,_,World.drewN_drewN _ _ _⟩ | exact ⟨rfl,_,Eq.trans (World.drewN_drewN _ _ _) (congrArg (World.drewN _) (Nat.add_assoc _ _ _))⟩)) | (go_at_call 22;(with_reducible refine (numnahlaw01_awake.calls  t241 _ A57.out).mono ?_);rintro e w60 ⟨rfl,hb⟩;have n0_:=Aside0.mk (Kd.R_below (by (with_reducible repeat (first | apply Kd.R_alloc | apply Kd.R_drewN | apply Kd.R_drew));exact HO_8.out) hb);have n1_:=Aside0.mk (Kd.R_below (by (with_reducible repeat (first | apply Kd.R_alloc | apply Kd.R_drewN | apply Kd.R_drew));exact HO_10.out) hb);have n2_:=Aside0.mk (below_step (by repeat (first | (with_reducible first | exact HB.out | apply below_alloc | apply pw_below_drewN | apply below_drew1) | exact HB.out)) hb);clear HO_8;clear HO_10;clear HB;have HO_8:=n0_;have HO_10:=n1_;have HB:=n2_;clear n0_ n1_ n2_;(try clear hb)));try go_wp2_with (first | (go_at_call 32;(with_reducible refine (numnahref01_Implicant.calls k3 t226 (strOfNums x10_2) false _ A51.out).mono ?_);rintro e w' ⟨rfl,⟨nd,rfl⟩⟩;(try first | exact ⟨rfl,_,World.drewN_drewN _ _ _⟩ | exact ⟨rfl,_,Eq.trans (World.drewN_drewN _ _ _) (congrArg (World.drewN _) (Nat.add_assoc _ _ _))⟩)) | (go_at_call 33;(with_reducible refine (numnahref01_Covers.calls k3 t226 _ _ t227 true _ ?side1 ?side2 A55.out).mono ?_);(case side1=>repeat (first | exact (Kd.R_reads' HO_8.out).2.2 | (with_reducible refine Kd.C_alloc ?_ _) | (with_reducible refine Kd.C_drewN ?_ _) | (with_reducible refine Kd.C_drew ?_)));(case side2=>exact (Kd.R_reads' HO_8.out).2.1);rintro e w' ⟨rfl,⟨nd,rfl⟩⟩;(try first | exact ⟨rfl,_,World.drewN_drewN _ _ _⟩ | exact ⟨rfl,_,Eq.trans (World.drewN_drewN _ _ _) (congrArg (World.drewN _) (Nat.add_assoc _ _ _))⟩)) | (go_at_call 22;(with_reducible refine (numnahlaw01_awake.calls  t241 _ A57.out).mono ?_);rintro e w60 ⟨rfl,hb⟩;have n0_:=Aside0.mk (Kd.R_below (by (with_reducible repeat (first | apply Kd.R_alloc | apply Kd.R_drewN | apply Kd.R_drew));exact HO_8.out) hb);have n1_:=Aside0.mk (Kd.R_below (by (with_reducible repeat (first | apply Kd.R_alloc | apply Kd.R_drewN | apply Kd.R_drew));exact HO_10.out) hb);have n2_:=Aside0.mk (below_step (by repeat (first | (with_reducible first | exact HB.out | apply below_alloc | apply pw_below_drewN | apply below_drew1) | exact HB.out)) hb);clear HO_8;clear HO_10;clear HB;have HO_8:=n0_;have HO_10:=n1_;have HB:=n2_;clear n0_ n1_ n2_;(try clear hb))))
        go_ret
        exact ⟨by first | rfl | (simp [errW_none,errW_some] <;> rfl) | (simp [*,errW_none,errW_some] <;> rfl),by repeat (first | (with_reducible first | exact HB.out | apply below_alloc | apply pw_below_drewN | apply below_drew1) | exact HB.out)⟩
       rw [if_pos c27] at H
       have c27b0:decide (x14_3 < (t227.length:Int)) = true:=decide_eq_true c27
       clear c27
       by_cases c28:0 ≤ x14_3
       case neg =>
        rw [if_neg c28] at H
        exact absurd H (by simp)
       rw [if_pos c28] at H
       have c28b0:decide (0 ≤ x14_3) = true:=decide_eq_true c28
       clear c28
       replace H:=Option.bind_eq_some_iff.mp H
       obtain ⟨t243,A290,H⟩:=H
       replace H:(if t243 = true then (if x13_3 = true then (numnahlaw01_CardInside.j3 k3 (wrap64 (1 + t225)) t226 t227 x10_2 true x14_3) else ((numnahlaw01_inside.f k3 (strOfNums x10_2) (rdOf ByteArray.empty t227 x14_3)).bind fun t245=>(numnahlaw01_CardInside.j3 k3 (wrap64 (1 + t225)) t226 t227 x10_2 t245 x14_3))) else (some false)) = some r:=H
       have A29:=Aside0.mk A290
       clear A290
       by_cases c30:t243 = true
       case neg =>
        replace c30:=Bool.eq_false_iff.mpr c30
        subst c30
        have H1:(some false) = some r:=by rw [if_neg (show ¬ (false = true) by decide)] at H;exact H
        clear H
        have H:=H1
        clear H1
        exact absurd ((Option.some.inj H).trans hrt_) (by decide)
       subst c30
       have H1:(if x13_3 = true then (numnahlaw01_CardInside.j3 k3 (wrap64 (1 + t225)) t226 t227 x10_2 true x14_3) else ((numnahlaw01_inside.f k3 (strOfNums x10_2) (rdOf ByteArray.empty t227 x14_3)).bind fun t245=>(numnahlaw01_CardInside.j3 k3 (wrap64 (1 + t225)) t226 t227 x10_2 t245 x14_3))) = some r:=by rw [if_pos rfl] at H;exact H
       clear H
       have H:=H1
       clear H1
       have HC31:=Aside0.mk H
       clear H
       obtain ⟨Ao32,co32,eo32⟩:=Kd.R_slice HO_8.out
       subst eo32
       have p242:0 ≤ (x14_3:Int):=of_decide_eq_true (by first | (with_reducible assumption) | assumption)
       have q242:x14_3 < (t227.length:Int):=of_decide_eq_true (by first | (with_reducible assumption) | assumption)
       obtain ⟨ad242,e242,hx242_0⟩:=Kd.at_string (Kd.R_reads' HO_8.out).2.2 x14_3 p242 q242
       cases e242
       replace p242:=eq_true p242
       replace q242:=eq_true q242
       go_upto_region 20 with (first | (go_at_call 30;(with_reducible refine (numnahref01_Cube.calls k3 (rdOf ByteArray.empty t227 x14_3) (wrap64 (1 + t225)) true _ A29.out).mono ?_);rintro e w' ⟨rfl,⟨nd,rfl⟩⟩;(try first | exact ⟨rfl,_,World.drewN_drewN _ _ _⟩ | exact ⟨rfl,_,Eq.trans (World.drewN_drewN _ _ _) (congrArg (World.drewN _) (Nat.add_assoc _ _ _))⟩)))
       repeat (go_quiet (first | (go_at_call 30;(with_reducible refine (numnahref01_Cube.calls k3 (rdOf ByteArray.empty t227 x14_3) (wrap64 (1 + t225)) true _ A29.out).mono ?_);rintro e w' ⟨rfl,⟨nd,rfl⟩⟩;(try first | exact ⟨rfl,_,World.drewN_drewN _ _ _⟩ | exact ⟨rfl,_,Eq.trans (World.drewN_drewN _ _ _) (congrArg (World.drewN _) (Nat.add_assoc _ _ _))⟩)));go_upto_region 20 with (first | (go_at_call 30;(with_reducible refine (numnahref01_Cube.calls k3 (rdOf ByteArray.empty t227 x14_3) (wrap64 (1 + t225)) true _ A29.out).mono ?_);rintro e w' ⟨rfl,⟨nd,rfl⟩⟩;(try first | exact ⟨rfl,_,World.drewN_drewN _ _ _⟩ | exact ⟨rfl,_,Eq.trans (World.drewN_drewN _ _ _) (congrArg (World.drewN _) (Nat.add_assoc _ _ _))⟩))))
       (try simp only [Act.put,List.setIfInBounds_toArray,List.set_cons_zero,List.set_cons_succ])
       go_cut [13] (fun v13 wc=>∃ (kq:Nat) (x13_30:Bool),v13 = .bool x13_30 ∧ Aside0 (numnahlaw01_CardInside.j3 kq (wrap64 (1 + t225)) t226 t227 x10_2 x13_30 x14_3 = some r) ∧ Aside0 (kq ≤ k3) ∧ Aside0 (Kd.R Kd.string 9 wc w.heap.size (fun _=>True) (.slice (some ad242) t227.length co32) t227) ∧ Aside0 (Kd.R (Kd.int .u8) 5 wc w.heap.size (fun _=>True) u10 x10_2) ∧ Aside0 (Below w.heap.size w wc))
       case first =>
        have H:=HC31.out
        clear HC31
        by_cases c33:x13_3 = true
        ·subst c33
         have H1:(numnahlaw01_CardInside.j3 k3 (wrap64 (1 + t225)) t226 t227 x10_2 true x14_3) = some r:=by rw [if_pos rfl] at H;exact H
         clear H
         have H:=H1
         clear H1
         have H':=Aside0.mk H
         clear H
         go_wp2
         repeat (go_quiet (fail);try go_wp2)
         go_meet
         case rel=>exact ⟨_,(true),(by first | rfl | (simp;done) | (simp [*];done)),H',⟨by have:=HJ6.out;have:=HK2.out;have:=HK3.out;first | omega | exact Nat.le_refl _⟩,⟨by (with_reducible repeat (first | apply Kd.R_alloc | apply Kd.R_drewN | apply Kd.R_drew));exact HO_8.out⟩,⟨by (with_reducible repeat (first | apply Kd.R_alloc | apply Kd.R_drewN | apply Kd.R_drew));exact HO_10.out⟩,⟨by repeat (first | (with_reducible first | exact HB.out | apply below_alloc | apply pw_below_drewN | apply below_drew1) | exact HB.out)⟩⟩
        replace c33:=Bool.eq_false_iff.mpr c33
        subst c33
        have H1:((numnahlaw01_inside.f k3 (strOfNums x10_2) (rdOf ByteArray.empty t227 x14_3)).bind fun t245=>(numnahlaw01_CardInside.j3 k3 (wrap64 (1 + t225)) t226 t227 x10_2 t245 x14_3)) = some r:=by rw [if_neg (show ¬ (false = true) by decide)] at H;exact H
        clear H
        have H:=H1
        clear H1
        replace H:=Option.bind_eq_some_iff.mp H
        obtain ⟨t245,A340,H⟩:=H
        replace H:(numnahlaw01_CardInside.j3 k3 (wrap64 (1 + t225)) t226 t227 x10_2 t245 x14_3) = some r:=H
        have A34:=Aside0.mk A340
        clear A340
        have H':=Aside0.mk H
        clear H
        have hcv35:=own_string (P:=Try.prog) Try.underlying42 Try.underlying5 Try.underlying9 (Kd.own_of_R HO_10.out)
        have hcv35n:=fun m=>own_string (P:=Try.prog) Try.underlying42 Try.underlying5 Try.underlying9 (Kd.own_of_R (Kd.R_drewN (Kd.R_drewN HO_10.out nd) m))
        have hcv35m:=fun m=>own_string (P:=Try.prog) Try.underlying42 Try.underlying5 Try.underlying9 (Kd.own_of_R (Kd.R_drewN HO_10.out m))
        have p244:0 ≤ (x14_3:Int):=of_decide_eq_true (by first | (with_reducible assumption) | assumption)
        have q244:x14_3 < (t227.length:Int):=of_decide_eq_true (by first | (with_reducible assumption) | assumption)
        obtain ⟨ad244,e244,hx244_0⟩:=Kd.at_string (Kd.R_reads' HO_8.out).2.2 x14_3 p244 q244
        obtain rfl:ad242 = ad244:=(by injection e244)
        replace p244:=eq_true p244
        replace q244:=eq_true q244
        go_wp2_with (first | (go_at_call 31;(with_reducible refine (numnahlaw01_inside.calls k3 (strOfNums x10_2) (rdOf ByteArray.empty t227 x14_3) t245 _ A34.out).mono ?_);rintro e w' ⟨rfl,⟨nd,rfl⟩⟩;(try first | exact ⟨rfl,_,World.drewN_drewN _ _ _⟩ | exact ⟨rfl,_,Eq.trans (World.drewN_drewN _ _ _) (congrArg (World.drewN _) (Nat.add_assoc _ _ _))⟩)))
        repeat (go_quiet (first | (go_at_call 31;(with_reducible refine (numnahlaw01_inside.calls k3 (strOfNums x10_2) (rdOf ByteArray.empty t227 x14_3) t245 _ A34.out).mono ?_);rintro e w' ⟨rfl,⟨nd,rfl⟩⟩;(try first | exact ⟨rfl,_,World.drewN_drewN _ _ _⟩ | exact ⟨rfl,_,Eq.trans (World.drewN_drewN _ _ _) (congrArg (World.drewN _) (Nat.add_assoc _ _ _))⟩)));try go_wp2_with (first | (go_at_call 31;(with_reducible refine (numnahlaw01_inside.calls k3 (strOfNums x10_2) (rdOf ByteArray.empty t227 x14_3) t245 _ A34.out).mono ?_);rintro e w' ⟨rfl,⟨nd,rfl⟩⟩;(try first | exact ⟨rfl,_,World.drewN_drewN _ _ _⟩ | exact ⟨rfl,_,Eq.trans (World.drewN_drewN _ _ _) (congrArg (World.drewN _) (Nat.add_assoc _ _ _))⟩))))
        go_meet
        case rel=>exact ⟨_,(t245),(by first | rfl | (simp;done) | (simp [*];done)),H',⟨by have:=HJ6.out;have:=HK2.out;have:=HK3.out;first | omega | exact Nat.le_refl _⟩,⟨by (with_reducible repeat (first | apply Kd.R_alloc | apply Kd.R_drewN | apply Kd.R_drew));exact HO_8.out⟩,⟨by (with_reducible repeat (first | apply Kd.R_alloc | apply Kd.R_drewN | apply Kd.R_drew));exact HO_10.out⟩,⟨by repeat (first | (with_reducible first | exact HB.out | apply below_alloc | apply pw_below_drewN | apply below_drew1) | exact HB.out)⟩⟩
       case rest =>
        clear HC31
        try clear c1
        try clear p1
        try clear q1
        try clear hx1
        try clear c2
        try clear p2
        try clear q2
        try clear hx2
        try clear c3
        try clear hcv3
        try clear c4
        try clear p6
        try clear c10
        try clear c10b0
        try clear c10b1
        try clear c12
        try clear c13
        try clear c13b0
        try clear c14
        try clear c14b0
        try clear c15
        try clear c15b0
        try clear p16
        try clear q16
        try clear hx16
        try clear c18
        try clear c18b0
        try clear c19
        try clear c19b0
        try clear p20
        try clear q20
        try clear hx20
        try clear c21
        try clear c23
        try clear c23b0
        try clear p24
        try clear q24
        try clear hx24
        try clear c25
        try clear c27
        try clear c27b0
        try clear c28
        try clear c28b0
        try clear c30
        try clear c33
        try clear hcv35
        try clear hx242_0
        try clear hx244_0
        try clear p1
        try clear p16
        try clear p2
        try clear p20
        try clear p24
        try clear p242
        try clear p244
        try clear p6
        try clear q1
        try clear q16
        try clear q2
        try clear q20
        try clear q24
        try clear q242
        try clear q244
        obtain ⟨kq,x13_30,rfl,HA,HJ30,HO_8,HO_10,HB⟩:=hcut
        cases kq with
        | zero=>exact absurd HA.out (by simp [numnahlaw01_CardInside.j3])
        | succ kj30 =>
         have H:=HA.out
         clear HA
         simp only [numnahlaw01_CardInside.j3] at H
         have H':=Aside0.mk H
         clear H
         go_wp2
         repeat (go_quiet (fail);try go_wp2)
         go_loopg [15] kj30 (fun kq v15 w'=>∃ (x15_5:Int),v15 = .int .i64 x15_5 ∧ Aside0 (numnahlaw01_CardInside.l2 kq (wrap64 (1 + t225)) t226 t227 x10_2 x13_30 x14_3 x15_5 = some r) ∧ Aside0 (kq ≤ kj30) ∧ Aside0 (Kd.R Kd.string 9 w' w.heap.size (fun _=>True) (.slice (some ad242) t227.length co32) t227) ∧ Aside0 (Kd.R (Kd.int .u8) 5 w' w.heap.size (fun _=>True) u10 x10_2) ∧ Aside0 (Below w.heap.size w w'))
         case atStart=>exact ⟨(0),(by first | rfl | (simp;done) | (simp [*];done)),H',⟨Nat.le_refl _⟩,⟨by (with_reducible repeat (first | apply Kd.R_alloc | apply Kd.R_drewN | apply Kd.R_drew));exact HO_8.out⟩,⟨by (with_reducible repeat (first | apply Kd.R_alloc | apply Kd.R_drewN | apply Kd.R_drew));exact HO_10.out⟩,⟨by repeat (first | (with_reducible first | exact HB.out | apply below_alloc | apply pw_below_drewN | apply below_drew1) | exact HB.out)⟩⟩
         case round =>
          clear H'
          try clear c1
          try clear p1
          try clear q1
          try clear hx1
          try clear c2
          try clear p2
          try clear q2
          try clear hx2
          try clear c3
          try clear hcv3
          try clear c4
          try clear p6
          try clear c10
          try clear c10b0
          try clear c10b1
          try clear c12
          try clear c13
          try clear c13b0
          try clear c14
          try clear c14b0
          try clear c15
          try clear c15b0
          try clear p16
          try clear q16
          try clear hx16
          try clear c18
          try clear c18b0
          try clear c19
          try clear c19b0
          try clear p20
          try clear q20
          try clear hx20
          try clear c21
          try clear c23
          try clear c23b0
          try clear p24
          try clear q24
          try clear hx24
          try clear c25
          try clear c27
          try clear c27b0
          try clear c28
          try clear c28b0
          try clear c30
          try clear c33
          try clear hcv35
          try clear hx242_0
          try clear hx244_0
          try clear p1
          try clear p16
          try clear p2
          try clear p20
          try clear p24
          try clear p242
          try clear p244
          try clear p6
          try clear q1
          try clear q16
          try clear q2
          try clear q20
          try clear q24
          try clear q242
          try clear q244
          obtain ⟨x15_5,rfl,HA,HK5,HO_8,HO_10,HB⟩:=hrel
          cases gk with
          | zero=>exact absurd HA.out (by simp [numnahlaw01_CardInside.l2])
          | succ k5 =>
           have H:=HA.out
           clear HA
           simp only [numnahlaw01_CardInside.l2] at H
           by_cases c36:x15_5 < (t227.length:Int)
           case neg =>
            rw [if_neg c36] at H
            have c36b0:decide (x15_5 < (t227.length:Int)) = false:=decide_eq_false c36
            clear c36
            have H':=Aside0.mk H
            clear H
            go_wp2
            repeat (go_quiet (fail);try go_wp2)
            go_roundg k5
            case measure=>have:=HJ6.out;have:=HK2.out;have:=HK3.out;have:=HJ30.out;have:=HK5.out;omega
            case rel=>exact ⟨(x13_30),(wrap64 (x14_3 + 1)),(by first | rfl | (simp;done) | (simp [*];done)),(by first | rfl | (simp;done) | (simp [*];done)),H',⟨by have:=HJ6.out;have:=HK2.out;have:=HK3.out;have:=HJ30.out;have:=HK5.out;omega⟩,⟨by (with_reducible repeat (first | apply Kd.R_alloc | apply Kd.R_drewN | apply Kd.R_drew));exact HO_8.out⟩,⟨by (with_reducible repeat (first | apply Kd.R_alloc | apply Kd.R_drewN | apply Kd.R_drew));exact HO_10.out⟩,⟨by repeat (first | (with_reducible first | exact HB.out | apply below_alloc | apply pw_below_drewN | apply below_drew1) | exact HB.out)⟩⟩
           rw [if_pos c36] at H
           have c36b0:decide (x15_5 < (t227.length:Int)) = true:=decide_eq_true c36
           clear c36
           by_cases c37:x15_5 = x14_3
           ·rw [if_pos c37] at H
            have c37b0:(x15_5 == x14_3) = true:=beq_iff_eq.mpr c37
            have c37b1:(x15_5 != x14_3) = false:=bne_eq_false_iff_eq.mpr c37
            clear c37
            have H':=Aside0.mk H
            clear H
            go_wp2
            repeat (go_quiet (fail);try go_wp2)
            go_roundg k5
            case measure=>have:=HJ6.out;have:=HK2.out;have:=HK3.out;have:=HJ30.out;have:=HK5.out;omega
            case rel=>exact ⟨(wrap64 (x15_5 + 1)),(by first | rfl | (simp;done) | (simp [*];done)),H',⟨by have:=HJ6.out;have:=HK2.out;have:=HK3.out;have:=HJ30.out;have:=HK5.out;omega⟩,⟨by (with_reducible repeat (first | apply Kd.R_alloc | apply Kd.R_drewN | apply Kd.R_drew));exact HO_8.out⟩,⟨by (with_reducible repeat (first | apply Kd.R_alloc | apply Kd.R_drewN | apply Kd.R_drew));exact HO_10.out⟩,⟨by repeat (first | (with_reducible first | exact HB.out | apply below_alloc | apply pw_below_drewN | apply below_drew1) | exact HB.out)⟩⟩
           rw [if_neg c37] at H
           have c37b0:(x15_5 == x14_3) = false:=beq_eq_false_iff_ne.mpr c37
           have c37b1:(x15_5 != x14_3) = true:=bne_iff_ne.mpr c37
           by_cases c38:0 ≤ x14_3
           case neg =>
            rw [if_neg c38] at H
            exact absurd H (by simp)
           rw [if_pos c38] at H
           have c38b0:decide (0 ≤ x14_3) = true:=decide_eq_true c38
           clear c38
           by_cases c39:x14_3 < (t227.length:Int)
           case neg =>
            rw [if_neg c39] at H
            exact absurd H (by simp)
           rw [if_pos c39] at H
           have c39b0:decide (x14_3 < (t227.length:Int)) = true:=decide_eq_true c39
           clear c39
           by_cases c40:0 ≤ x15_5
           case neg =>
            rw [if_neg c40] at H
            exact absurd H (by simp)
           rw [if_pos c40] at H
           have c40b0:decide (0 ≤ x15_5) = true:=decide_eq_true c40
           clear c40
           replace H:=Option.bind_eq_some_iff.mp H
           obtain ⟨t248,A410,H⟩:=H
           replace H:(if t248 = true then (some false) else (numnahlaw01_CardInside.l2 k5 (wrap64 (1 + t225)) t226 t227 x10_2 x13_30 x14_3 (wrap64 (x15_5 + 1)))) = some r:=H
           have A41:=Aside0.mk A410
           clear A410
           by_cases c42:t248 = true
           ·subst c42
            have H1:(some false) = some r:=by rw [if_pos rfl] at H;exact H
            clear H
            have H:=H1
            clear H1
            exact absurd ((Option.some.inj H).trans hrt_) (by decide)
           replace c42:=Bool.eq_false_iff.mpr c42
           subst c42
           have H1:(numnahlaw01_CardInside.l2 k5 (wrap64 (1 + t225)) t226 t227 x10_2 x13_30 x14_3 (wrap64 (x15_5 + 1))) = some r:=by rw [if_neg (show ¬ (false = true) by decide)] at H;exact H
           clear H
           have H:=H1
           clear H1
           have H':=Aside0.mk H
           clear H
           have p246:0 ≤ (x14_3:Int):=of_decide_eq_true (by first | (with_reducible assumption) | assumption)
           have q246:x14_3 < (t227.length:Int):=of_decide_eq_true (by first | (with_reducible assumption) | assumption)
           obtain ⟨ad246,e246,hx246_0⟩:=Kd.at_string (Kd.R_reads' HO_8.out).2.2 x14_3 p246 q246
           obtain rfl:ad242 = ad246:=(by injection e246)
           replace p246:=eq_true p246
           replace q246:=eq_true q246
           have p247:0 ≤ (x15_5:Int):=of_decide_eq_true (by first | (with_reducible assumption) | assumption)
           have q247:x15_5 < (t227.length:Int):=of_decide_eq_true (by first | (with_reducible assumption) | assumption)
           obtain ⟨ad247,e247,hx247_0⟩:=Kd.at_string (Kd.R_reads' HO_8.out).2.2 x15_5 p247 q247
           obtain rfl:ad242 = ad247:=(by injection e247)
           replace p247:=eq_true p247
           replace q247:=eq_true q247
           go_wp2_with (first | (go_at_call 31;(with_reducible refine (numnahlaw01_inside.calls k5 (rdOf ByteArray.empty t227 x14_3) (rdOf ByteArray.empty t227 x15_5) false _ A41.out).mono ?_);rintro e w' ⟨rfl,⟨nd,rfl⟩⟩;(try first | exact ⟨rfl,_,World.drewN_drewN _ _ _⟩ | exact ⟨rfl,_,Eq.trans (World.drewN_drewN _ _ _) (congrArg (World.drewN _) (Nat.add_assoc _ _ _))⟩)))
           repeat (go_quiet (first | (go_at_call 31;(with_reducible refine (numnahlaw01_inside.calls k5 (rdOf ByteArray.empty t227 x14_3) (rdOf ByteArray.empty t227 x15_5) false _ A41.out).mono ?_);rintro e w' ⟨rfl,⟨nd,rfl⟩⟩;(try first | exact ⟨rfl,_,World.drewN_drewN _ _ _⟩ | exact ⟨rfl,_,Eq.trans (World.drewN_drewN _ _ _) (congrArg (World.drewN _) (Nat.add_assoc _ _ _))⟩)));try go_wp2_with (first | (go_at_call 31;(with_reducible refine (numnahlaw01_inside.calls k5 (rdOf ByteArray.empty t227 x14_3) (rdOf ByteArray.empty t227 x15_5) false _ A41.out).mono ?_);rintro e w' ⟨rfl,⟨nd,rfl⟩⟩;(try first | exact ⟨rfl,_,World.drewN_drewN _ _ _⟩ | exact ⟨rfl,_,Eq.trans (World.drewN_drewN _ _ _) (congrArg (World.drewN _) (Nat.add_assoc _ _ _))⟩))))
           go_roundg k5
           case measure=>have:=HJ6.out;have:=HK2.out;have:=HK3.out;have:=HJ30.out;have:=HK5.out;omega
           case rel=>exact ⟨(wrap64 (x15_5 + 1)),(by first | rfl | (simp;done) | (simp [*];done)),H',⟨by have:=HJ6.out;have:=HK2.out;have:=HK3.out;have:=HJ30.out;have:=HK5.out;omega⟩,⟨by (with_reducible repeat (first | apply Kd.R_alloc | apply Kd.R_drewN | apply Kd.R_drew));exact HO_8.out⟩,⟨by (with_reducible repeat (first | apply Kd.R_alloc | apply Kd.R_drewN | apply Kd.R_drew));exact HO_10.out⟩,⟨by repeat (first | (with_reducible first | exact HB.out | apply below_alloc | apply pw_below_drewN | apply below_drew1) | exact HB.out)⟩⟩
def numnahlaw01_CardInside.Pure:Prop:=∀ (a0:Int) (a1:ByteArray) (a2:ByteArray),(Lit.int .i64 a0).wf = true → a1.size ≤ 140737488351232 → a2.size ≤ 140737488351232 → ∃ k,numnahlaw01_CardInside.f k a0 a1 a2 = some true
theorem numnahlaw01_CardInside.walk (P:numnahlaw01_CardInside.Pure) (a0:Int) (a1:ByteArray) (a2:ByteArray) (w:World) (w0:(Lit.int .i64 a0).wf = true) (w1:a1.size ≤ 140737488351232) (w2:a2.size ≤ 140737488351232) :
  Calls Try.prog 4 #[.int .i64 a0,.string a1,.string a2] w fun e w'=>e = .returned (.bool true) ∧ Below w.heap.size w w':=by
 obtain ⟨k,h⟩:=P a0 a1 a2 w0 w1 w2
 refine (numnahlaw01_CardInside.calls k a0 a1 a2 true w h rfl).mono ?_
 rintro e w' ⟨rfl,hd⟩
 exact ⟨rfl,hd⟩
end Go.Proofs.Ythpahlkhiknofaa.G
set_option linter.unusedSectionVars false
namespace Go.Proofs.Ythpahlkhiknofaa.P
open Go Go.RowKit Go.Proofs.Ythpahlkhiknofaa.M Go.Proofs.Ythpahlkhiknofaa.G Go.Proofs.Ythpahlkhiknofaa.H
open Go.Proofs.YthpahlkhiknofaaW.PrintWords Go.Proofs.YthpahlkhiknofaaW.PrintMore
theorem ord_txt:∀ n:Fin 6,(ordL n.val).all (fun x=>isCn n.val (txt n.val x) && decide (cubeS (txt n.val x) = x)) = true:=by decide +kernel
theorem ord_len:∀ n:Fin 6,(ordL n.val).length ≤ 243:=by decide +kernel
theorem isCn_split {n:Nat} {t:ByteArray} (h:isCn n t = true):okC t = true ∧ t.size = n:=by
 unfold isCn at h
 rw [Bool.and_eq_true,beq_iff_eq] at h
 exact h
theorem sub_str (t:ByteArray) (n:Nat):SubV (careN t n) (valN t n):=fun i hi=>by
 rw [valN_bit,Bool.and_eq_true,decide_eq_true_eq,decide_eq_true_eq] at hi
 rw [careN_bit,Bool.and_eq_true,decide_eq_true_eq,decide_eq_true_eq]
 exact ⟨hi.1,by omega⟩
theorem inC_has {n:Nat} {t:ByteArray} (h:isCn n t = true) (p:Nat):inC t p = hasN (careN t n) (valN t n) p:=by
 obtain ⟨ho,hs⟩:=isCn_split h
 rw [← has_iff ho,hs];rfl
def insS (a b:ByteArray) (n:Nat):Bool:=allF (fun i=>decide (bt b (i:Int) = 45) || decide (bt a (i:Int) = bt b (i:Int))) n 0
theorem ins_iff {n:Nat} {a b:ByteArray} (ha:isCn n a = true) (hb:isCn n b = true):insS a b n = true ↔ InN (careN a n) (valN a n) (careN b n) (valN b n):=by
 obtain ⟨oa,sa⟩:=isCn_split ha
 obtain ⟨ob,sb⟩:=isCn_split hb
 have ca:=(allF_iff _ _ _).1 oa
 have cb:=(allF_iff _ _ _).1 ob
 unfold insS
 rw [allF_iff]
 constructor
 ·intro h i hi
  rw [careN_bit,Bool.and_eq_true,decide_eq_true_eq,decide_eq_true_eq] at hi
  have h2:=h i (by omega) (by omega)
  rw [Bool.or_eq_true,decide_eq_true_eq,decide_eq_true_eq] at h2
  rcases h2 with h2 | h2
  ·exact absurd h2 hi.2
  ·rw [careN_bit,valN_bit,valN_bit,h2,decide_eq_true hi.1,decide_eq_true hi.2]
   exact ⟨rfl,rfl⟩
 ·intro h i _ hi
  rw [Bool.or_eq_true,decide_eq_true_eq,decide_eq_true_eq]
  by_cases h45:bt b (i:Int) = 45
  ·exact .inl h45
  ·right
   have h2:=h i (by rw [careN_bit,decide_eq_true (show i < n by omega),decide_eq_true h45];rfl)
   rw [careN_bit,valN_bit,valN_bit,decide_eq_true (show i < n by omega),Bool.true_and,Bool.true_and,Bool.true_and,decide_eq_true_eq] at h2
   obtain ⟨h3,h4⟩:=h2
   have c1:=ca i (by omega) (by omega)
   have c2:=cb i (by omega) (by omega)
   unfold isC at c1 c2
   simp only [decide_eq_true_eq] at c1 c2
   by_cases h9:bt a (i:Int) = 49
   ·rw [decide_eq_true h9,decide_eq_true_eq] at h4;omega
   ·rw [decide_eq_false h9,decide_eq_false_iff_not] at h4;omega
theorem inside_l0 {n:Nat} {a b:ByteArray} (hn:n ≤ 40) (ha:a.size = n) (hb:b.size = n):∀ d i,i + d = n → Ev (fun k=>numnahlaw01_inside.l0 k a b (i:Int)) (allF (fun i=>decide (bt b (i:Int) = 45) || decide (bt a (i:Int) = bt b (i:Int))) d i):=by
 intro d
 induction d with
 | zero =>
  intro i hi
  refine Ev.step (fun k=>by rw [numnahlaw01_inside.l0,if_neg (by omega)]) (Ev.step (fun k=>by rw [numnahlaw01_inside.j1,if_neg (by decide)]) ?_)
  rw [show ((a.size:Int) == (b.size:Int)) = true from beq_iff_eq.2 (by omega)]
  exact Ev.now _
 | succ d ih =>
  intro i hi
  have hnx:=ih (i + 1) (by omega)
  rw [allF]
  refine Ev.step (fun k=>by rw [numnahlaw01_inside.l0,if_pos (by omega),decide_eq_true (show (i:Int) < (b.size:Int) by omega)]) (Ev.step (fun k=>by rw [numnahlaw01_inside.j1,if_pos rfl,if_pos (by omega),if_pos (by omega),wrap_succ (by omega)]) ?_)
  by_cases h:bt b (i:Int) = 45
  ·rw [decide_eq_true h,Bool.true_or,Bool.true_and]
   exact Ev.congr (fun k=>if_pos h) hnx
  ·rw [decide_eq_false h,Bool.false_or]
   by_cases h2:bt a (i:Int) = bt b (i:Int)
   ·rw [decide_eq_true h2,Bool.true_and]
    exact Ev.congr (fun k=>if_neg h) (Ev.congr (fun k=>if_pos (by omega)) (Ev.congr (fun k=>if_pos h2) hnx))
   ·rw [decide_eq_false h2,Bool.false_and]
    exact Ev.congr (fun k=>if_neg h) (Ev.congr (fun k=>if_pos (by omega)) (Ev.congr (fun k=>if_neg h2) (Ev.now _)))
theorem ev_inside {n:Nat} {a b:ByteArray} (hn:n ≤ 40) (ha:a.size = n) (hb:b.size = n):Ev (fun k=>numnahlaw01_inside.f k a b) (insS a b n):=inside_l0 hn ha hb n 0 (by omega)
section
variable {s:ByteArray} (hs:s.size ≤ 40) {n:Nat} (hn:n ≤ 40) {t:ByteArray} (ht:isCn n t = true)
include hs hn ht
theorem rimp_l0:∀ d i (b:Bool),i + d = s.size → Ev (fun k=>numnahref01_Implicant.l0 k s t b (i:Int)) ((b || !allF (fun p=>!(hasN (careN t n) (valN t n) p && (bt s (p:Int) == 49))) d i) && allF (fun p=>!(hasN (careN t n) (valN t n) p && (bt s (p:Int) == 48))) d i):=by
 obtain ⟨ho,hsz⟩:=isCn_split ht
 intro d
 induction d with
 | zero =>
  intro i b hi
  refine Ev.step (f:=fun _=>some b) (fun k=>?_) (by simpa [allF] using Ev.now b)
  rw [numnahref01_Implicant.l0,if_neg (by omega)]
 | succ d ih =>
  intro i b hi
  refine Ev.step (fun k=>by rw [numnahref01_Implicant.l0,if_pos (by omega),wrap_succ (by omega)]) (Ev.bind (ev_contains (c:=t) (by omega) ho i) ?_)
  rw [inC_has ht,allF,allF]
  cases h:hasN (careN t n) (valN t n) i with
  | false =>
   have hnx:=ih (i + 1) b (by omega)
   refine Ev.congr (fun k=>if_neg (by decide)) ?_
   simpa using hnx
  | true =>
   refine Ev.congr (fun k=>if_pos rfl) (Ev.congr (fun k=>if_pos (by omega)) ?_)
   by_cases h8:bt s (i:Int) = 48
   ·rw [show (bt s (i:Int) == 48) = true from beq_iff_eq.2 h8]
    refine Ev.congr (fun k=>if_pos h8) ?_
    simpa using Ev.now false
   ·rw [show (bt s (i:Int) == 48) = false from beq_eq_false_iff_ne.2 h8]
    refine Ev.congr (fun k=>if_neg h8) ?_
    cases b with
    | true =>
     have hnx:=ih (i + 1) true (by omega)
     refine Ev.congr (fun k=>if_pos rfl) ?_
     simpa using hnx
    | false =>
     have hnx:=ih (i + 1) (bt s (i:Int) == 49) (by omega)
     refine Ev.congr (fun k=>if_neg (by decide)) ?_
     cases h9:(bt s (i:Int) == 49) with
     | true=>rw [h9] at hnx;simpa using hnx
     | false=>rw [h9] at hnx;simpa using hnx
theorem ev_rimp:Ev (fun k=>numnahref01_Implicant.f k s t) (impN s (careN t n) (valN t n)):=rimp_l0 hs hn ht s.size 0 false (by omega)
end
def primS (n:Nat) (s:ByteArray):List ByteArray:=(primesL n s).map (txt n)
theorem texts_l0 (n:Nat) (hn:n ≤ 5) (s:ByteArray) (l:List S96) (hl:l.length ≤ 1000000):∀ d i,i + d = l.length → Ev (fun k=>card_function_texts.l0 k ((l.take i).map (txt n)) l (l.length:Int) (i:Int) (n:Int) s) (l.map (txt n)):=by
 intro d
 induction d with
 | zero =>
  intro i hi
  rw [List.take_of_length_le (by omega)]
  refine Ev.step (f:=fun _=>some (l.map (txt n))) (fun k=>?_) (Ev.now _)
  rw [card_function_texts.l0,if_neg (by omega)]
 | succ d ih =>
  intro i hi
  have hil:i < l.length:=by omega
  have hnx:=ih (i + 1) (by omega)
  have hrd:rd_T96 l (i:Int) = l[i]:=by unfold rd_T96;rw [Int.toNat_natCast,List.getD_eq_getElem?_getD,List.getElem?_eq_getElem hil];rfl
  have ht:card_cube_text.f (l[i]).f0 (l[i]).f1 (n:Int) = some (txt n l[i]):=by
   unfold card_cube_text.f
   rw [if_pos ⟨by omega,by omega⟩,Int.toNat_natCast];rfl
  rw [List.take_succ_eq_append_getElem hil,List.map_append,List.map_singleton] at hnx
  refine Ev.step (fun k=>?_) hnx
  rw [card_function_texts.l0,if_pos (by omega),if_pos (by omega),if_pos (by omega),hrd,ht,Option.bind_some,if_pos (by rw [List.length_map,List.length_take];omega),wrap_succ (by omega)]
theorem ev_texts {n:Nat} (hn:n ≤ 5) (s:ByteArray) (l:List S96) (hl:l.length ≤ 1000000):Ev (fun k=>card_function_texts.f k (n:Int) s l) (l.map (txt n)):=texts_l0 n hn s l hl l.length 0 (by omega)
theorem prim_len {n:Nat} (hn:n ≤ 5) (s:ByteArray):(primesL n s).length ≤ 243:=by
 have:=ord_len ⟨n,by omega⟩
 exact Nat.le_trans (List.length_filter_le _ _) this
theorem ev_Primes {c:ByteArray} (hc:c.size ≤ 40) (h0:fnN c ≠ 0):Ev (fun k=>card_Primes.f k c) (primS (fnN c) c,0):=by
 obtain ⟨m,hm,e⟩:=newF hc
 have:=hm h0
 subst this
 obtain ⟨_,_,n1,n5,_⟩:=fnN_pos hc h0
 have hp:card_function_primes.f (fnN c:Int) c = some (primesL (fnN c) c):=by
  unfold card_function_primes.f
  rw [if_pos ⟨by omega,by omega,hc⟩,Int.toNat_natCast]
 have ht:=ev_texts n5 c (primesL (fnN c) c) (by have:=prim_len n5 c;omega)
 unfold card_Primes.f
 rw [e]
 refine Ev.congr (fun k=>Option.bind_some _ _) (Ev.congr (fun k=>if_pos (decide_eq_true h0)) ?_)
 simp only [hp,Option.bind_some]
 exact Ev.bind ht (Ev.now _)
theorem prim_mem {n:Nat} (hn:n ≤ 5) {s t:ByteArray} (h:t ∈ primS n s):isCn n t = true ∧ primeN s n (careN t n) (valN t n) = true:=by
 obtain ⟨x,hx,rfl⟩:=List.mem_map.1 h
 obtain ⟨h1,h2⟩:=List.mem_filter.1 hx
 have:=List.all_eq_true.1 (ord_txt ⟨n,by omega⟩) x h1
 rw [Bool.and_eq_true,decide_eq_true_eq] at this
 obtain ⟨h3,h4⟩:=this
 refine ⟨h3,?_⟩
 have h5:=(isCn_split h3).2
 have e0:x.f0.toNat = careN (txt n x) n:=by
  have:=congrArg S96.f0 h4
  rw [← this];unfold cubeS;simp only;rw [Int.toNat_natCast,h5]
 have e1:x.f1.toNat = valN (txt n x) n:=by
  have:=congrArg S96.f1 h4
  rw [← this];unfold cubeS;simp only;rw [Int.toNat_natCast,h5]
 rwa [e0,e1] at h2
theorem raw_mem {n c v:Nat} (hn:n ≤ 5) (hc:c < 2 ^ n) (hv:SubV c v):(⟨(c:Int),(v:Int)⟩:S96) ∈ rawL n:=by
 have hvn:v < 2 ^ n:=by
  have:v &&& c = v:=Nat.eq_of_testBit_eq fun i=>by
   rw [Nat.testBit_and]
   cases h:v.testBit i with
   | false=>rfl
   | true=>rw [hv i h];rfl
  rw [← this]
  exact Nat.lt_of_le_of_lt Nat.and_le_right hc
 have h32:2 ^ n ≤ 2 ^ 5:=Nat.pow_le_pow_right (by decide) hn
 unfold rawL
 refine List.mem_flatMap.2 ⟨c,List.mem_range.2 hc,List.mem_map.2 ⟨v,List.mem_filter.2 ⟨List.mem_range.2 hvn,?_⟩,rfl⟩⟩
 rw [decide_eq_true_eq,ni_andNot v c (by omega)]
 have:andNot v c = 0:=Nat.eq_of_testBit_eq fun i=>by
  rw [testBit_andNot,Nat.zero_testBit]
  cases h:v.testBit i with
  | false=>rfl
  | true=>rw [hv i h];rfl
 rw [this];rfl
theorem prim_all {n:Nat} (hn:n ≤ 5) {s:ByteArray} {c v:Nat} (hc:c < 2 ^ n) (hv:SubV c v) (hp:primeN s n c v = true):∃ t,t ∈ primS n s ∧ careN t n = c ∧ valN t n = v:=by
 have hx:=(List.isPerm_iff.1 (ord_perm ⟨n,by omega⟩)).mem_iff.1 (raw_mem hn hc hv)
 have:=List.all_eq_true.1 (ord_txt ⟨n,by omega⟩) _ hx
 rw [Bool.and_eq_true,decide_eq_true_eq] at this
 obtain ⟨h3,h4⟩:=this
 have h5:=(isCn_split h3).2
 refine ⟨txt n ⟨(c:Int),(v:Int)⟩,List.mem_map.2 ⟨_,List.mem_filter.2 ⟨hx,by simp only [Int.toNat_natCast];exact hp⟩,rfl⟩,?_,?_⟩
 ·have:=congrArg S96.f0 h4
  unfold cubeS at this
  simp only at this h5
  rw [h5] at this
  omega
 ·have:=congrArg S96.f1 h4
  unfold cubeS at this
  simp only at this h5
  rw [h5] at this
  omega
theorem prim_nodup {n:Nat} (hn:n ≤ 5) (s:ByteArray):(primS n s).Pairwise (fun a b=>Lib.compareBytes a.data.toList b.data.toList < 0):=by
 have ha:=asc_pair n _ (ord_asc ⟨n,by omega⟩)
 exact List.Pairwise.map _ (fun a b h=>h) (List.Pairwise.filter _ ha)
theorem str_eq {n:Nat} {a b:ByteArray} (ha:isCn n a = true) (hb:isCn n b = true) (hc:careN a n = careN b n) (hv:valN a n = valN b n):a = b:=by
 obtain ⟨oa,sa⟩:=isCn_split ha
 obtain ⟨ob,sb⟩:=isCn_split hb
 have ca:=(allF_iff _ _ _).1 oa
 have cb:=(allF_iff _ _ _).1 ob
 apply ByteArray.ext_getElem
 ·omega
 ·intro i h1 h2
  have e1:=careN_bit a i n
  have e2:=careN_bit b i n
  have e3:=valN_bit a i n
  have e4:=valN_bit b i n
  have c1:=ca i (by omega) (by omega)
  have c2:=cb i (by omega) (by omega)
  rw [hc,e2,decide_eq_true (show i < n by omega),Bool.true_and,Bool.true_and] at e1
  rw [hv,e4,decide_eq_true (show i < n by omega),Bool.true_and,Bool.true_and] at e3
  have f1:(bt b (i:Int) ≠ 45) ↔ (bt a (i:Int) ≠ 45):=decide_eq_decide.1 e1
  have f3:(bt b (i:Int) = 49) ↔ (bt a (i:Int) = 49):=decide_eq_decide.1 e3
  unfold isC at c1 c2
  simp only [decide_eq_true_eq] at c1 c2
  have:bt a (i:Int) = bt b (i:Int):=by omega
  rw [bt_get h1,bt_get h2] at this
  exact UInt8.toNat_inj.1 (by omega)
theorem bytes2:bt (⟨#[48,49,45]⟩:ByteArray) 2 = 45:=by decide +kernel
theorem func3_l0 (s:ByteArray) (hs:s.size ≤ 140737488351232) {n:Nat} (h1:1 ≤ n) (h5:n ≤ 5):∀ d i (x:List Int),i + d = 2 ^ n → x.length = i → (∀ y ∈ x,y = 48 ∨ y = 49 ∨ y = 45) → ∃ z:List Int,z.length = 2 ^ n ∧ (∀ y ∈ z,y = 48 ∨ y = 49 ∨ y = 45) ∧ Ev (fun k=>numnahlaw01_function.l0 k s (n:Int) 3 x (i:Int)) (strOfNums z):=by
 have h32:2 ^ n ≤ 2 ^ 5:=Nat.pow_le_pow_right (by decide) h5
 intro d
 induction d with
 | zero =>
  intro i x hi hx hv
  refine ⟨x,by omega,hv,Ev.step (f:=fun _=>some (strOfNums x)) (fun k=>?_) (Ev.now _)⟩
  rw [numnahlaw01_function.l0,if_pos (by omega),shl_one (by omega),if_neg (by omega)]
 | succ d ih =>
  intro i x hi hx hv
  have nx:∀ y:Int,(y = 48 ∨ y = 49 ∨ y = 45) → ∃ z:List Int,z.length = 2 ^ n ∧ (∀ y ∈ z,y = 48 ∨ y = 49 ∨ y = 45) ∧ Ev (fun k=>numnahlaw01_function.l0 k s (n:Int) 3 (x ++ [y]) ((i + 1:Nat):Int)) (strOfNums z):=fun y hy=>ih (i + 1) (x ++ [y]) (by omega) (by rw [List.length_append,hx];rfl) (fun a ha=>by
   rcases List.mem_append.1 ha with ha | ha
   ·exact hv a ha
   ·rw [List.mem_singleton.1 ha];exact hy)
  by_cases his:(i:Int) < (s.size:Int)
  ·have hb:=bt_range s (i:Int)
   have hw:wrap64 (bt s (i:Int)) = bt s (i:Int):=wrap_id (by omega) (by omega)
   have ht:Int.tmod (bt s (i:Int)) 3 = bt s (i:Int) % 3:=Int.tmod_eq_emod_of_nonneg hb.1
   have hm:bt s (i:Int) % 3 = 0 ∨ bt s (i:Int) % 3 = 1 ∨ bt s (i:Int) % 3 = 2:=by omega
   have st:∀ k,numnahlaw01_function.l0 (k + 1) s (n:Int) 3 x (i:Int) = numnahlaw01_function.l0 k s (n:Int) 3 (x ++ [bt (⟨#[48,49,45]⟩:ByteArray) (bt s (i:Int) % 3)]) ((i + 1:Nat):Int):=fun k=>by
    rw [numnahlaw01_function.l0,if_pos (by omega),shl_one (by omega),if_pos (by omega),if_pos his,if_pos (by omega),if_neg (by decide),hw,ht,if_pos (by omega),if_pos (by omega),if_pos (by omega),wrap_succ (by omega)]
   rcases hm with h | h | h
   ·rw [h,bytes01.1] at st
    obtain ⟨z,z1,z2,z3⟩:=nx 48 (.inl rfl)
    exact ⟨z,z1,z2,Ev.step st z3⟩
   ·rw [h,bytes01.2] at st
    obtain ⟨z,z1,z2,z3⟩:=nx 49 (.inr (.inl rfl))
    exact ⟨z,z1,z2,Ev.step st z3⟩
   ·rw [h,bytes2] at st
    obtain ⟨z,z1,z2,z3⟩:=nx 45 (.inr (.inr rfl))
    exact ⟨z,z1,z2,Ev.step st z3⟩
  ·obtain ⟨z,z1,z2,z3⟩:=nx 48 (.inl rfl)
   refine ⟨z,z1,z2,Ev.step (fun k=>?_) z3⟩
   rw [numnahlaw01_function.l0,if_pos (by omega),shl_one (by omega),if_pos (by omega),if_neg his,if_pos (by decide),if_pos (by omega),bytes01.1,wrap_succ (by omega)]
theorem mk_ok {z:List Int} (h:∀ y ∈ z,y = 48 ∨ y = 49 ∨ y = 45):okC (strOfNums z) = true:=by
 refine (allF_iff _ _ _).2 fun p _ hp=>?_
 rw [str_size] at hp
 have hp':p < z.length:=by omega
 have:=h _ (List.getElem_mem hp')
 unfold isC
 rw [decide_eq_true_eq,str_bt hp' (by omega) (by omega)]
 exact this
theorem ev_function3 (s:ByteArray) (hs:s.size ≤ 140737488351232) {n:Nat} (h1:1 ≤ n) (h5:n ≤ 5):∃ c:ByteArray,fnN c = n ∧ c.size ≤ 40 ∧ c.size = 2 ^ n ∧ Ev (fun k=>numnahlaw01_function.f k s (n:Int) 3) c:=by
 have h32:2 ^ n ≤ 2 ^ 5:=Nat.pow_le_pow_right (by decide) h5
 obtain ⟨z,z1,z2,z3⟩:=func3_l0 s hs h1 h5 (2 ^ n) 0 [] (by omega) rfl (fun y hy=>by cases hy)
 have hsz:(strOfNums z).size = 2 ^ n:=by rw [str_size,z1]
 refine ⟨_,?_,by omega,hsz,z3⟩
 unfold fnN
 rw [if_pos (mk_ok z2),hsz,lg_pow h1 h5]
theorem bytesC:bt (⟨#[45,48,49]⟩:ByteArray) 0 = 45 ∧ bt (⟨#[45,48,49]⟩:ByteArray) 1 = 48 ∧ bt (⟨#[45,48,49]⟩:ByteArray) 2 = 49:=by refine ⟨?_,?_,?_⟩ <;> decide +kernel
section
variable {c:ByteArray} (hc:c.size ≤ 40) {n:Nat} (hn:1 ≤ n ∧ n ≤ 5) (hsz:c.size = 2 ^ n) (hfn:fnN c = n)
include hc hn hsz hfn
theorem prim_cov:covS c (primS n c) = true:=by
 unfold covS
 refine (allF_iff _ _ _).2 fun p _ hp=>?_
 have hp':p < c.size:=by omega
 unfold badS
 have hany:(primS n c).any (fun t=>inC t p) = true ↔ ∃ t,t ∈ primS n c ∧ hasN (careN t n) (valN t n) p = true:=by
  rw [List.any_eq_true]
  exact ⟨fun ⟨t,h1,h2⟩=>⟨t,h1,by rw [← inC_has (prim_mem hn.2 h1).1];exact h2⟩,fun ⟨t,h1,h2⟩=>⟨t,h1,by rw [inC_has (prim_mem hn.2 h1).1];exact h2⟩⟩
 by_cases h9:bt c (p:Int) = 49
 ·obtain ⟨a,b,h1,h2,h3,h4⟩:=prime_point hsz hp' h9
  obtain ⟨t,ht,e1,e2⟩:=prim_all hn.2 h2 h1 h3
  rw [hany.2 ⟨t,ht,by rw [e1,e2];exact h4⟩,h9];rfl
 ·rw [show (bt c (p:Int) == 49) = false from beq_eq_false_iff_ne.2 h9,Bool.and_false,Bool.or_false]
  by_cases h8:bt c (p:Int) = 48
  ·have:(primS n c).any (fun t=>inC t p) = false:=by
    cases h:(primS n c).any (fun t=>inC t p) with
    | false=>rfl
    | true =>
     obtain ⟨t,ht,hh⟩:=hany.1 h
     exact absurd h8 ((imp_iff.1 (prime_iff.1 (prim_mem hn.2 ht).2).2).2 p hp' hh)
   rw [this];rfl
  ·rw [show (bt c (p:Int) == 48) = false from beq_eq_false_iff_ne.2 h8,Bool.and_false];rfl
theorem prim_ne {i k:Nat} (hi:i < (primS n c).length) (hk:k < (primS n c).length) (hne:i ≠ k):insS (primS n c)[i] (primS n c)[k] n = false:=by
 obtain ⟨a1,a2⟩:=prim_mem hn.2 (List.getElem_mem hi)
 obtain ⟨b1,b2⟩:=prim_mem hn.2 (List.getElem_mem hk)
 cases h:insS (primS n c)[i] (primS n c)[k] n with
 | false=>rfl
 | true =>
  obtain ⟨e1,e2⟩:=prime_apart (careN_lt _ n) (sub_str _ n) (sub_str _ n) a2 b2 ((ins_iff a1 b1).1 h)
  have he:=str_eq a1 b1 e1 e2
  have hnd:=List.pairwise_iff_getElem.1 (prim_nodup hn.2 c)
  rcases Nat.lt_or_gt_of_ne hne with h2 | h2
  ·have:=hnd i k hi hk h2
   rw [he] at this
   exact absurd this (cb_irr _)
  ·have:=hnd k i hk hi h2
   rw [he] at this
   exact absurd this (cb_irr _)
theorem prim_over {t:ByteArray} (ht:isCn n t = true) (hi:impN c (careN t n) (valN t n) = true):∃ k,∃ hk:k < (primS n c).length,insS t (primS n c)[k] n = true:=by
 obtain ⟨a,b,h1,h2,h3,h4⟩:=prime_over (n:=n) _ _ (sub_str t n) hi
 have hlt:a < 2 ^ n:=Nat.lt_of_le_of_lt h2 (careN_lt t n)
 obtain ⟨u,hu,e1,e2⟩:=prim_all hn.2 hlt h1 h4
 obtain ⟨k,hk,rfl⟩:=List.getElem_of_mem hu
 refine ⟨k,hk,(ins_iff ht (prim_mem hn.2 hu).1).2 ?_⟩
 rw [e1,e2];exact h3
theorem ins_l2 {z:List Int} {i:Nat} (hi:i < (primS n c).length) (b:Bool) {r:Bool} (hv:Ev (fun k=>numnahlaw01_CardInside.l1 k (n:Int) c (primS n c) z b ((i + 1:Nat):Int)) r):∀ d j,j + d = (primS n c).length → Ev (fun k=>numnahlaw01_CardInside.l2 k (n:Int) c (primS n c) z b (i:Int) (j:Int)) r:=by
 have hlen:(primS n c).length ≤ 243:=by unfold primS;rw [List.length_map];exact prim_len hn.2 c
 intro d
 induction d with
 | zero =>
  intro j hj
  refine Ev.step (fun k=>?_) hv
  rw [numnahlaw01_CardInside.l2,if_neg (by omega),wrap_succ (by omega)]
 | succ d ih =>
  intro j hj
  have hnx:=ih (j + 1) (by omega)
  have hjl:j < (primS n c).length:=by omega
  refine Ev.step (fun k=>by rw [numnahlaw01_CardInside.l2,if_pos (by omega),wrap_succ (by omega)]) ?_
  by_cases e:j = i
  ·exact Ev.congr (fun k=>if_pos (by omega)) hnx
  ·have si:=(isCn_split (prim_mem hn.2 (List.getElem_mem hi)).1).2
   have sj:=(isCn_split (prim_mem hn.2 (List.getElem_mem hjl)).1).2
   refine Ev.congr (fun k=>if_neg (by omega)) (Ev.congr (fun k=>if_pos (by omega)) (Ev.congr (fun k=>if_pos (by omega)) (Ev.congr (fun k=>if_pos (by omega)) ?_)))
   rw [rdS hi,rdS hjl]
   refine Ev.bind (ev_inside (n:=n) (by omega) si sj) ?_
   rw [prim_ne hc hn hsz hfn hi hjl (fun h=>e h.symm)]
   exact Ev.congr (fun k=>if_neg (by decide)) hnx
theorem ins_l1 {z:List Int} (ht:isCn n (strOfNums z) = true):∀ d i (b:Bool),i + d = (primS n c).length → (b = true ∨ ∀ k,(hk:k < (primS n c).length) → k < i → insS (strOfNums z) (primS n c)[k] n = false) → Ev (fun k=>numnahlaw01_CardInside.l1 k (n:Int) c (primS n c) z b (i:Int)) true:=by
 have hlen:(primS n c).length ≤ 243:=by unfold primS;rw [List.length_map];exact prim_len hn.2 c
 have hst:=(isCn_split ht).2
 have hcov:Ev (fun k=>numnahref01_Covers.f k c (primS n c)) true:=by
  have:=ev_rcov (s:=c) (by omega) (l:=primS n c) (by omega) (fun t h=>by have:=isCn_split (prim_mem hn.2 h).1;exact ⟨this.1,by omega⟩)
  rwa [prim_cov hc hn hsz hfn] at this
 have hfin:Ev (fun k=>(numnahref01_Covers.f k c (primS n c)).bind fun t237=>(if t237 = true then ((numnahlaw01_awake.f).bind fun t238=>(some t238)) else (some false))) true:=Ev.bind hcov (Ev.congr (fun k=>if_pos rfl) ev_aw)
 intro d
 induction d with
 | zero =>
  intro i b hi hb
  refine Ev.step (fun k=>by rw [numnahlaw01_CardInside.l1,if_neg (by omega)]) ?_
  cases b with
  | true=>exact Ev.congr (fun k=>if_pos rfl) hfin
  | false =>
   refine Ev.congr (fun k=>if_neg (by decide)) (Ev.bind (ev_rimp hc (by omega) ht) ?_)
   cases h:impN c (careN (strOfNums z) n) (valN (strOfNums z) n) with
   | false=>exact Ev.congr (fun k=>if_neg (by decide)) hfin
   | true =>
    exfalso
    obtain ⟨k,hk,hin⟩:=prim_over hc hn hsz hfn ht h
    rcases hb with hb | hb
    ·cases hb
    ·rw [hb k hk (by omega)] at hin;cases hin
 | succ d ih =>
  intro i b hi hb
  have hil:i < (primS n c).length:=by omega
  obtain ⟨cn,_⟩:=prim_mem hn.2 (List.getElem_mem hil)
  obtain ⟨ok,si⟩:=isCn_split cn
  have ecube:Ev (fun k=>numnahref01_Cube.f k (primS n c)[i] (n:Int)) true:=by
   have:=ev_cube (c:=(primS n c)[i]) (by omega) (n:Int)
   rwa [ok,Bool.true_and,show (((primS n c)[i].size:Int) == (n:Int)) = true from beq_iff_eq.2 (by omega)] at this
  refine Ev.step (fun k=>by rw [numnahlaw01_CardInside.l1,if_pos (by omega),if_pos (by omega),rdS hil]) (Ev.bind ecube (Ev.congr (fun k=>if_pos rfl) ?_))
  have tail:∀ b':Bool,(b' = true ∨ ∀ k,(hk:k < (primS n c).length) → k < i + 1 → insS (strOfNums z) (primS n c)[k] n = false) → Ev (fun k=>numnahlaw01_CardInside.j3 k (n:Int) c (primS n c) z b' (i:Int)) true:=fun b' hb'=>by
   refine Ev.step (fun k=>?_) (ins_l2 hc hn hsz hfn hil b' (ih (i + 1) b' (by omega) hb') (primS n c).length 0 (by omega))
   rw [numnahlaw01_CardInside.j3];rfl
  cases b with
  | true=>exact Ev.congr (fun k=>if_pos rfl) (tail true (.inl rfl))
  | false =>
   refine Ev.congr (fun k=>if_neg (by decide)) (Ev.bind (ev_inside (n:=n) (by omega) hst si) (tail _ ?_))
   cases h:insS (strOfNums z) (primS n c)[i] n with
   | true=>exact .inl rfl
   | false =>
    right
    intro k hk hki
    rcases hb with hb | hb
    ·cases hb
    ·by_cases e:k = i
     ·subst e;exact h
     ·exact hb k hk (by omega)
theorem ins_l0 (q:ByteArray) (hq:q.size ≤ 140737488351232):∀ d i (x:List Int),i + d = n → x.length = i → (∀ y ∈ x,y = 48 ∨ y = 49 ∨ y = 45) → Ev (fun k=>numnahlaw01_CardInside.l0 k (n:Int) q c (primS n c) x (i:Int)) true:=by
 intro d
 induction d with
 | zero =>
  intro i x hi hx hv
  obtain rfl:i = n:=by omega
  have ht:isCn i (strOfNums x) = true:=by
   unfold isCn
   rw [mk_ok hv,Bool.true_and,beq_iff_eq,str_size,hx]
  refine Ev.step (fun k=>?_) (ins_l1 hc hn hsz hfn ht (primS i c).length 0 false (by omega) (.inr fun k _ hk=>by omega))
  rw [numnahlaw01_CardInside.l0,if_neg (by omega)];rfl
 | succ d ih =>
  intro i x hi hx hv
  have nx:∀ y:Int,(y = 48 ∨ y = 49 ∨ y = 45) → Ev (fun k=>numnahlaw01_CardInside.l0 k (n:Int) q c (primS n c) (x ++ [y]) ((i + 1:Nat):Int)) true:=fun y hy=>ih (i + 1) (x ++ [y]) (by omega) (by rw [List.length_append,hx];rfl) (fun a ha=>by
   rcases List.mem_append.1 ha with ha | ha
   ·exact hv a ha
   ·rw [List.mem_singleton.1 ha];exact hy)
  by_cases his:(i:Int) < (q.size:Int)
  ·have hb:=bt_range q (i:Int)
   have hw:wrap64 (bt q (i:Int)) = bt q (i:Int):=wrap_id (by omega) (by omega)
   have ht:Int.tmod (bt q (i:Int)) 3 = bt q (i:Int) % 3:=Int.tmod_eq_emod_of_nonneg hb.1
   have hm:bt q (i:Int) % 3 = 0 ∨ bt q (i:Int) % 3 = 1 ∨ bt q (i:Int) % 3 = 2:=by omega
   refine Ev.step (fun k=>by rw [numnahlaw01_CardInside.l0,if_pos (by omega),if_pos his,if_pos (by omega),hw,ht,if_pos (by omega),if_pos (by omega),if_pos (by omega),wrap_succ (by omega)]) ?_
   rcases hm with h | h | h
   ·rw [h,bytesC.1];exact nx 45 (.inr (.inr rfl))
   ·rw [h,bytesC.2.1];exact nx 48 (.inl rfl)
   ·rw [h,bytesC.2.2];exact nx 49 (.inr (.inl rfl))
  ·refine Ev.step (fun k=>?_) (nx 45 (.inr (.inr rfl)))
   rw [numnahlaw01_CardInside.l0,if_pos (by omega),if_neg his,if_pos (by decide),if_pos (by omega),bytesC.1,wrap_succ (by omega)]
end
theorem inside_pure (a0:Int) (a1 a2:ByteArray) (h1:a1.size ≤ 140737488351232) (h2:a2.size ≤ 140737488351232):∃ k,numnahlaw01_CardInside.f k a0 a1 a2 = some true:=by
 refine Ev.rounds ?_
 unfold numnahlaw01_CardInside.f
 obtain ⟨m,m0,m5,em⟩:=mod_some a0 (n:=5) (by decide) (by decide)
 obtain ⟨n,rfl⟩:∃ k:Nat,m = (k:Int):=⟨m.toNat,by omega⟩
 rw [em]
 have hw:wrap64 (1 + (n:Int)) = ((n + 1:Nat):Int):=by rw [wrap_id (by omega) (by omega)];omega
 simp only [Option.bind_some,hw]
 obtain ⟨c,hc2,hc3,hc4,hev⟩:=ev_function3 a1 h1 (n:=n + 1) (by omega) (by omega)
 have eP:=ev_Primes hc3 (by rw [hc2];omega)
 rw [hc2] at eP
 have hlen:(primS (n + 1) c).length ≤ 243:=by unfold primS;rw [List.length_map];exact prim_len (by omega) c
 refine Ev.bind hev (Ev.bind eP (Ev.congr (fun k=>if_pos rfl) ?_))
 have hd:decide (((primS (n + 1) c,(0:Int)).1.length:Int) > 243) = false:=decide_eq_false (by show ¬ ((primS (n + 1) c).length:Int) > 243;omega)
 rw [hd]
 refine Ev.step (fun k=>?_) (ins_l0 hc3 (n:=n + 1) ⟨by omega,by omega⟩ hc4 hc2 a2 h2 (n + 1) 0 [] (by omega) rfl (fun y hy=>by cases hy))
 rw [numnahlaw01_CardInside.j0,if_neg (by decide)];rfl
theorem inside_Pure:numnahlaw01_CardInside.Pure:=fun a0 a1 a2 _ h1 h2=>inside_pure a0 a1 a2 h1 h2
end Go.Proofs.Ythpahlkhiknofaa.P
