/- Several texts, joined. -/
import Derived.Test.YthpahlkhiknofaaQP2
namespace Go.Proofs.Ythpahlkhiknofaa.G
end Go.Proofs.Ythpahlkhiknofaa.G
set_option linter.unusedVariables false
set_option linter.unusedSimpArgs false
namespace Go.Proofs.Ythpahlkhiknofaa.G
open Go.RowKit Go.Proofs.YthpahlkhiknofaaW.PrintWords Go.Proofs.YthpahlkhiknofaaW.PrintLast Go.Proofs.YthpahlkhiknofaaW.PrintMore
set_option maxHeartbeats 8000000
set_option maxRecDepth 100000
attribute [local go_sem] max2_int min2_int max_two min_two max_three min_three max_four min_four   -- for this text's walks alone
def numnahlaw01_short.f (a0:ByteArray):Option (ByteArray):=if 0 ≤ (mn (a0.size:Int) 40) then (if (mn (a0.size:Int) 40) ≤ (a0.size:Int) then (some (a0.extract 0 ((mn (a0.size:Int) 40):Int).toNat)) else (none)) else (none)
theorem numnahlaw01_short.calls (a0:ByteArray) (r:ByteArray) (w:World) (h:numnahlaw01_short.f a0 = some r) :
  Calls Try.prog 16 #[.string a0] w fun e w'=>e = .returned (.string r) ∧ Below w.heap.size w w':=by
 have HB:=Aside0.mk (Below.refl w.heap.size w)
 have H:(if 0 ≤ (mn (a0.size:Int) 40) then (if (mn (a0.size:Int) 40) ≤ (a0.size:Int) then (some (a0.extract 0 ((mn (a0.size:Int) 40):Int).toNat)) else (none)) else (none)) = some r:=h
 clear h
 obtain ⟨ji2,hji2⟩:∃ j_:Int,(mn (a0.size:Int) 40) = j_:=⟨_,rfl⟩
 replace H:(if 0 ≤ (ji2) then (if (ji2) ≤ (a0.size:Int) then (some (a0.extract 0 ((ji2):Int).toNat)) else (none)) else (none)) = some r:=by first | (rw [hji2] at H;exact H) | (simp only [hji2] at H ⊢;exact H)
 (try (have hji2h:ji2 ≤ 40:=by (rw [← hji2];unfold mn;(repeat' split) <;> omega)))
 (try (have hji2g:ji2 ≤ 64:=by omega))
 (try (have hji2l:0 ≤ ji2:=by (rw [← hji2];unfold mn;(repeat' split) <;> omega)))
 (try (have hji2m:0 ≤ ji2:=by omega))
 have hji2_:(if 40 < (a0.size:Int) then 40 else (a0.size:Int)) = ji2:=hji2
 by_cases c3:0 ≤ (ji2)
 case neg =>
  rw [if_neg c3] at H
  exact absurd H (by simp)
 rw [if_pos c3] at H
 have c3b0:=eq_true c3
 have c3b1:decide (0 ≤ (ji2)) = true:=decide_eq_true c3
 clear c3
 by_cases c4:(ji2) ≤ (a0.size:Int)
 case neg =>
  rw [if_neg c4] at H
  exact absurd H (by simp)
 rw [if_pos c4] at H
 have c4b0:=eq_true c4
 have c4b1:decide ((ji2) ≤ (a0.size:Int)) = true:=decide_eq_true c4
 clear c4
 obtain rfl:=Option.some.inj H
 go_enter Try.func16,Try.ntmps16
 go_wp2
 go_ret
 exact ⟨by first | rfl | (simp [errW_none,errW_some] <;> rfl) | (simp only [← hji2];first | rfl | (simp [errW_none,errW_some] <;> rfl)) | (simp [*,errW_none,errW_some] <;> rfl),by repeat (first | (with_reducible first | exact HB.out | apply below_alloc | apply pw_below_drewN | apply below_drew1) | exact HB.out)⟩
def numnahref01_Cube.l0:Nat → ByteArray → Int → Int → Option (Bool)
 | 0,_,_,_=>none
 | k + 1,x0,x1,x5=>if x5 < (x0.size:Int) then (if 0 ≤ x5 then (if (bt x0 x5) = 48 then (numnahref01_Cube.l0 k x0 x1 (wrap64 (x5 + 1))) else (if (bt x0 x5) = 49 then (numnahref01_Cube.l0 k x0 x1 (wrap64 (x5 + 1))) else (if (bt x0 x5) = 45 then (numnahref01_Cube.l0 k x0 x1 (wrap64 (x5 + 1))) else (some false)))) else (none)) else (some ((x0.size:Int) == x1))
def numnahref01_Cube.f (k:Nat) (a0:ByteArray) (a1:Int):Option (Bool):=numnahref01_Cube.l0 k a0 a1 0
theorem numnahref01_Cube.mono_l:∀ k,(∀ y0 y1 y2,LeO (numnahref01_Cube.l0 k y0 y1 y2) (numnahref01_Cube.l0 (k + 1) y0 y1 y2))
 | 0=>fun _ _ _ r h=>by simp [numnahref01_Cube.l0] at h
 | k + 1=>by
  have ih0:=numnahref01_Cube.mono_l k
  intro y0 y1 y2
  unfold numnahref01_Cube.l0
  repeat' first
  | (with_reducible exact ih0 _ _ _)
  | (with_reducible exact LeO.refl _)
  | (with_reducible exact LeO.none _)
  | (with_reducible refine LeO.ite ?_ ?_)
  | (with_reducible refine LeO.bind ?_ (fun _=>?_))
  | exact ih0 _ _ _
  | exact LeO.none _
  | refine LeO.ite ?_ ?_
  | refine LeO.bind ?_ (fun _=>?_)
theorem numnahref01_Cube.mono:∀ a0 a1 k,LeO (numnahref01_Cube.f k a0 a1) (numnahref01_Cube.f (k + 1) a0 a1):=by
 intro a0 a1 k
 have ih0:=numnahref01_Cube.mono_l k
 unfold numnahref01_Cube.f
 repeat' first
   | (with_reducible exact ih0 _ _ _)
   | (with_reducible exact LeO.refl _)
   | (with_reducible exact LeO.none _)
   | (with_reducible refine LeO.ite ?_ ?_)
   | (with_reducible refine LeO.bind ?_ (fun _=>?_))
   | exact ih0 _ _ _
   | exact LeO.none _
   | refine LeO.ite ?_ ?_
   | refine LeO.bind ?_ (fun _=>?_)
theorem numnahref01_Cube.calls (k:Nat) (a0:ByteArray) (a1:Int) (r:Bool) (w:World) (h:numnahref01_Cube.f k a0 a1 = some r) :
  Calls Try.prog 30 #[.string a0,.int .i64 a1] w fun e w'=>e = .returned (.bool r) ∧ Drawn0 w w':=by
 have H:(numnahref01_Cube.l0 k a0 a1 0) = some r:=h
 clear h
 have H':=Aside0.mk H
 clear H
 go_enter Try.func30,Try.ntmps30
 go_wp2
 go_loopg [5] k (fun kq v5 w'=>∃ (x5_1:Int),v5 = .int .i64 x5_1 ∧ Aside0 (numnahref01_Cube.l0 kq a0 a1 x5_1 = some r) ∧ Aside0 (kq ≤ k) ∧ Drawn0 w w')
 case atStart=>exact ⟨(0),(by first | rfl | (simp;done) | (simp [*];done)),H',⟨Nat.le_refl _⟩,by repeat (first | exact Drawn0.refl _ | apply Drawn0.step)⟩
 case round =>
  clear H'
  try clear p2
  obtain ⟨x5_1,rfl,HA,HK1,⟨m1,rfl⟩⟩:=hrel
  cases gk with
  | zero=>exact absurd HA.out (by simp [numnahref01_Cube.l0])
  | succ k1 =>
   have H:=HA.out
   clear HA
   simp only [numnahref01_Cube.l0] at H
   by_cases c3:x5_1 < (a0.size:Int)
   case neg =>
    rw [if_neg c3] at H
    have c3b0:decide (x5_1 < (a0.size:Int)) = false:=decide_eq_false c3
    clear c3
    obtain rfl:=Option.some.inj H
    go_wp2
    go_ret
    exact ⟨by first | rfl | (simp;done) | (simp [*];done),by repeat (first | exact Drawn0.refl _ | apply Drawn0.step)⟩
   rw [if_pos c3] at H
   have c3b0:decide (x5_1 < (a0.size:Int)) = true:=decide_eq_true c3
   clear c3
   by_cases c4:0 ≤ x5_1
   case neg =>
    rw [if_neg c4] at H
    exact absurd H (by simp)
   rw [if_pos c4] at H
   have c4b0:decide (0 ≤ x5_1) = true:=decide_eq_true c4
   clear c4
   by_cases c6:(bt a0 x5_1) = 48
   ·rw [if_pos c6] at H
    have c6b0:((bt a0 x5_1) == 48) = true:=beq_iff_eq.mpr c6
    have c6b1:((bt a0 x5_1) != 48) = false:=bne_eq_false_iff_eq.mpr c6
    clear c6
    have H':=Aside0.mk H
    clear H
    have p5:0 ≤ (x5_1:Int):=of_decide_eq_true (by first | (with_reducible assumption) | assumption)
    have q5:x5_1 < (a0.size:Int):=of_decide_eq_true (by first | (with_reducible assumption) | assumption)
    have hx5:=bt_at a0 x5_1
    replace p5:=eq_true p5
    replace q5:=eq_true q5
    go_wp2
    go_roundg k1
    case measure=>have:=HK1.out;omega
    case rel=>exact ⟨(wrap64 (x5_1 + 1)),(by first | rfl | (simp;done) | (simp [*];done)),H',⟨by have:=HK1.out;omega⟩,by repeat (first | exact Drawn0.refl _ | apply Drawn0.step)⟩
   rw [if_neg c6] at H
   have c6b0:((bt a0 x5_1) == 48) = false:=beq_eq_false_iff_ne.mpr c6
   have c6b1:((bt a0 x5_1) != 48) = true:=bne_iff_ne.mpr c6
   by_cases c8:(bt a0 x5_1) = 49
   ·rw [if_pos c8] at H
    have c8b0:((bt a0 x5_1) == 49) = true:=beq_iff_eq.mpr c8
    have c8b1:((bt a0 x5_1) != 49) = false:=bne_eq_false_iff_eq.mpr c8
    clear c8
    have H':=Aside0.mk H
    clear H
    have p5:0 ≤ (x5_1:Int):=of_decide_eq_true (by first | (with_reducible assumption) | assumption)
    have q5:x5_1 < (a0.size:Int):=of_decide_eq_true (by first | (with_reducible assumption) | assumption)
    have hx5:=bt_at a0 x5_1
    replace p5:=eq_true p5
    replace q5:=eq_true q5
    have p7:0 ≤ (x5_1:Int):=of_decide_eq_true (by first | (with_reducible assumption) | assumption)
    have q7:x5_1 < (a0.size:Int):=of_decide_eq_true (by first | (with_reducible assumption) | assumption)
    have hx7:=bt_at a0 x5_1
    replace p7:=eq_true p7
    replace q7:=eq_true q7
    go_wp2
    go_roundg k1
    case measure=>have:=HK1.out;omega
    case rel=>exact ⟨(wrap64 (x5_1 + 1)),(by first | rfl | (simp;done) | (simp [*];done)),H',⟨by have:=HK1.out;omega⟩,by repeat (first | exact Drawn0.refl _ | apply Drawn0.step)⟩
   rw [if_neg c8] at H
   have c8b0:((bt a0 x5_1) == 49) = false:=beq_eq_false_iff_ne.mpr c8
   have c8b1:((bt a0 x5_1) != 49) = true:=bne_iff_ne.mpr c8
   by_cases c10:(bt a0 x5_1) = 45
   case neg =>
    rw [if_neg c10] at H
    have c10b0:((bt a0 x5_1) == 45) = false:=beq_eq_false_iff_ne.mpr c10
    have c10b1:((bt a0 x5_1) != 45) = true:=bne_iff_ne.mpr c10
    obtain rfl:=Option.some.inj H
    have p5:0 ≤ (x5_1:Int):=of_decide_eq_true (by first | (with_reducible assumption) | assumption)
    have q5:x5_1 < (a0.size:Int):=of_decide_eq_true (by first | (with_reducible assumption) | assumption)
    have hx5:=bt_at a0 x5_1
    replace p5:=eq_true p5
    replace q5:=eq_true q5
    have p7:0 ≤ (x5_1:Int):=of_decide_eq_true (by first | (with_reducible assumption) | assumption)
    have q7:x5_1 < (a0.size:Int):=of_decide_eq_true (by first | (with_reducible assumption) | assumption)
    have hx7:=bt_at a0 x5_1
    replace p7:=eq_true p7
    replace q7:=eq_true q7
    have p9:0 ≤ (x5_1:Int):=of_decide_eq_true (by first | (with_reducible assumption) | assumption)
    have q9:x5_1 < (a0.size:Int):=of_decide_eq_true (by first | (with_reducible assumption) | assumption)
    have hx9:=bt_at a0 x5_1
    replace p9:=eq_true p9
    replace q9:=eq_true q9
    go_wp2
    go_ret
    exact ⟨by first | rfl | (simp;done) | (simp [*];done),by repeat (first | exact Drawn0.refl _ | apply Drawn0.step)⟩
   rw [if_pos c10] at H
   have c10b0:((bt a0 x5_1) == 45) = true:=beq_iff_eq.mpr c10
   have c10b1:((bt a0 x5_1) != 45) = false:=bne_eq_false_iff_eq.mpr c10
   clear c10
   have H':=Aside0.mk H
   clear H
   have p5:0 ≤ (x5_1:Int):=of_decide_eq_true (by first | (with_reducible assumption) | assumption)
   have q5:x5_1 < (a0.size:Int):=of_decide_eq_true (by first | (with_reducible assumption) | assumption)
   have hx5:=bt_at a0 x5_1
   replace p5:=eq_true p5
   replace q5:=eq_true q5
   have p7:0 ≤ (x5_1:Int):=of_decide_eq_true (by first | (with_reducible assumption) | assumption)
   have q7:x5_1 < (a0.size:Int):=of_decide_eq_true (by first | (with_reducible assumption) | assumption)
   have hx7:=bt_at a0 x5_1
   replace p7:=eq_true p7
   replace q7:=eq_true q7
   have p9:0 ≤ (x5_1:Int):=of_decide_eq_true (by first | (with_reducible assumption) | assumption)
   have q9:x5_1 < (a0.size:Int):=of_decide_eq_true (by first | (with_reducible assumption) | assumption)
   have hx9:=bt_at a0 x5_1
   replace p9:=eq_true p9
   replace q9:=eq_true q9
   go_wp2
   go_roundg k1
   case measure=>have:=HK1.out;omega
   case rel=>exact ⟨(wrap64 (x5_1 + 1)),(by first | rfl | (simp;done) | (simp [*];done)),H',⟨by have:=HK1.out;omega⟩,by repeat (first | exact Drawn0.refl _ | apply Drawn0.step)⟩
def card_newCube.l0:Nat → ByteArray → Int → Int → Int → Int → Option (Int × Int × Bool)
 | 0,_,_,_,_,_=>none
 | k + 1,x0,x7,x8,x224000,x224001=>if x8 < x7 then (if 0 ≤ x8 then (if x8 < (x0.size:Int) then (if (bt x0 x8) = 48 then (if x8 ≥ 5 then (some (0,0,false)) else (card_newCube.l0 k x0 x7 (wrap64 (x8 + 1)) (Go.bits .or .i64 x224000 (shl .i64 1 x8)) x224001)) else (if (bt x0 x8) = 49 then (if x8 ≥ 5 then (some (0,0,false)) else (card_newCube.l0 k x0 x7 (wrap64 (x8 + 1)) (Go.bits .or .i64 x224000 (shl .i64 1 x8)) (Go.bits .or .i64 x224001 (shl .i64 1 x8)))) else (if (bt x0 x8) = 45 then (if x8 ≥ 5 then (some (0,0,false)) else (card_newCube.l0 k x0 x7 (wrap64 (x8 + 1)) x224000 x224001)) else (some (0,0,false))))) else (none)) else (none)) else (some (x224000,x224001,(x0.toList != ([]:List UInt8))))
def card_newCube.f (k:Nat) (a0:ByteArray):Option (Int × Int × Bool):=card_newCube.l0 k a0 (a0.size:Int) 0 0 0
theorem card_newCube.mono_l:∀ k,(∀ y0 y1 y2 y3 y4,LeO (card_newCube.l0 k y0 y1 y2 y3 y4) (card_newCube.l0 (k + 1) y0 y1 y2 y3 y4))
 | 0=>fun _ _ _ _ _ r h=>by simp [card_newCube.l0] at h
 | k + 1=>by
  have ih0:=card_newCube.mono_l k
  intro y0 y1 y2 y3 y4
  unfold card_newCube.l0
  repeat' first
  | (with_reducible exact ih0 _ _ _ _ _)
  | (with_reducible exact LeO.refl _)
  | (with_reducible exact LeO.none _)
  | (with_reducible refine LeO.ite ?_ ?_)
  | (with_reducible refine LeO.bind ?_ (fun _=>?_))
  | exact ih0 _ _ _ _ _
  | exact LeO.none _
  | refine LeO.ite ?_ ?_
  | refine LeO.bind ?_ (fun _=>?_)
theorem card_newCube.mono:∀ a0 k,LeO (card_newCube.f k a0) (card_newCube.f (k + 1) a0):=by
 intro a0 k
 have ih0:=card_newCube.mono_l k
 unfold card_newCube.f
 repeat' first
   | (with_reducible exact ih0 _ _ _ _ _)
   | (with_reducible exact LeO.refl _)
   | (with_reducible exact LeO.none _)
   | (with_reducible refine LeO.ite ?_ ?_)
   | (with_reducible refine LeO.bind ?_ (fun _=>?_))
   | exact ih0 _ _ _ _ _
   | exact LeO.none _
   | refine LeO.ite ?_ ?_
   | refine LeO.bind ?_ (fun _=>?_)
theorem card_newCube.calls (k:Nat) (a0:ByteArray) (r1:Int) (r2:Int) (r3:Bool) (w:World) (h:card_newCube.f k a0 = some (r1,r2,r3)) :
  Calls Try.prog 69 #[.string a0] w fun e w'=>e = .returned (.tuple #[.agg #[.int .i64 r1,.int .i64 r2],.bool r3]) ∧ Below w.heap.size w w':=by
 have hu96:=Try.underlying96
 have HB:=Aside0.mk (Below.refl w.heap.size w)
 have H:(card_newCube.l0 k a0 (a0.size:Int) 0 0 0) = some (r1,r2,r3):=h
 clear h
 have H':=Aside0.mk H
 clear H
 go_enter Try.func69,Try.ntmps69
 go_wp2_with (first | ((with_reducible refine gate_dst (N:=2) rfl ?_);refine box_event ?hg (N:=2) ?hd (cs:=#[.int .i64 0,.int .i64 0]) (t:=96) ?hr ?_;(case hd=>rfl);(case hg=>rfl);(case hr=>first | (go_simp;done) | (go_simp;rfl));intro gb222 hg w2 hbox hb;have n0_:=Aside0.mk (below_step (by repeat (first | (with_reducible first | exact HB.out | apply below_alloc | apply pw_below_drewN | apply below_drew1) | exact HB.out)) hb);have n1_:=Aside0.mk (hbox);have n2_:=Aside0.mk ((by rw [hg];exact (below_size (by repeat (first | (with_reducible first | exact HB.out | apply below_alloc | apply pw_below_drewN | apply below_drew1) | exact HB.out))):w.heap.size ≤ gb222));have n3_:=Aside0.mk ((by rw [hg];exact (below_size (by repeat (first | (with_reducible first | exact HB.out | apply below_alloc | apply pw_below_drewN | apply below_drew1) | exact HB.out))):w.heap.size ≤ gb222));clear HB;have HB:=n0_;have BK222:=n1_;have GW222:=n2_;have GE222:=n3_;clear n0_ n1_ n2_ n3_;clear hb hbox hg) | ((with_reducible refine gate_dst (N:=4) rfl ?_);refine box_event ?hg (N:=4) ?hd (cs:=#[.int .i64 0,.int .i64 0]) (t:=96) ?hr ?_;(case hd=>rfl);(case hg=>rfl);(case hr=>first | (go_simp;done) | (go_simp;rfl));intro gb223 hg w3 hbox hb;have n0_:=Aside0.mk (blk_below (g:=gb222) (o:=.cells #[.int .i64 0,.int .i64 0] 96 (0,0)) (by (with_reducible repeat (first | refine blk_drewN ?_ _ | refine blk_drew ?_ | refine blk_alloc ?_ _));exact BK222.out) hb);have n1_:=Aside0.mk (below_step (by repeat (first | (with_reducible first | exact HB.out | apply below_alloc | apply pw_below_drewN | apply below_drew1 | refine below_set ?_ GE222.out) | exact HB.out)) hb);have n2_:=Aside0.mk (hbox);have n3_:=Aside0.mk ((by rw [hg];exact (below_size (by repeat (first | (with_reducible first | exact HB.out | apply below_alloc | apply pw_below_drewN | apply below_drew1 | refine below_set ?_ GE222.out) | exact HB.out))):w.heap.size ≤ gb223));have n4_:=Aside0.mk ((by rw [hg];exact (below_size (by repeat (first | (with_reducible first | exact HB.out | apply below_alloc | apply pw_below_drewN | apply below_drew1 | refine below_set ?_ GE222.out) | exact HB.out))):w.heap.size ≤ gb223));have n5_:=Aside0.mk ((by rw [hg];exact Nat.ne_of_lt (blk_lt (g:=gb222) (o:=.cells #[.int .i64 0,.int .i64 0] 96 (0,0)) (by (with_reducible repeat (first | refine blk_drewN ?_ _ | refine blk_drew ?_ | refine blk_alloc ?_ _));exact BK222.out)):gb222 ≠ gb223));have n6_:=Aside0.mk ((by rw [hg];exact Nat.ne_of_gt (blk_lt (g:=gb222) (o:=.cells #[.int .i64 0,.int .i64 0] 96 (0,0)) (by (with_reducible repeat (first | refine blk_drewN ?_ _ | refine blk_drew ?_ | refine blk_alloc ?_ _));exact BK222.out)):gb223 ≠ gb222));clear BK222;clear HB;have BK222:=n0_;have HB:=n1_;have BK223:=n2_;have GW223:=n3_;have GE223:=n4_;have NB222_223:=n5_;have NB223_222:=n6_;clear n0_ n1_ n2_ n3_ n4_ n5_ n6_;clear hb hbox hg))
 go_loopg [8] k (fun kq v8 w'=>∃ (x8_1:Int) (x223000_1:Int) (x223001_1:Int) (x224000_1:Int) (x224001_1:Int),v8 = .int .i64 x8_1 ∧ Aside0 (card_newCube.l0 kq a0 (a0.size:Int) x8_1 x224000_1 x224001_1 = some (r1,r2,r3)) ∧ Aside0 (kq ≤ k) ∧ Aside0 (w'.heap[gb222]? = some (.cells #[.int .i64 x223000_1,.int .i64 x223001_1] 96 (0,0))) ∧ Aside0 (w'.heap[gb223]? = some (.cells #[.int .i64 x224000_1,.int .i64 x224001_1] 96 (0,0))) ∧ Aside0 (Below w.heap.size w w'))
 case atStart=>exact ⟨(0),(0),(0),(0),(0),(by first | rfl | (simp;done) | (simp [*];done)),H',⟨Nat.le_refl _⟩,⟨by (with_reducible repeat (first | refine blk_drewN ?_ _ | refine blk_drew ?_ | refine blk_alloc ?_ _));exact BK222.out⟩,⟨by (with_reducible repeat (first | refine blk_drewN ?_ _ | refine blk_drew ?_ | refine blk_alloc ?_ _));exact BK223.out⟩,⟨by repeat (first | (with_reducible first | exact HB.out | apply below_alloc | apply pw_below_drewN | apply below_drew1 | refine below_set ?_ GE222.out | refine below_set ?_ GE223.out) | exact HB.out)⟩⟩
 case round =>
  clear H'
  try clear p2
  obtain ⟨x8_1,x223000_1,x223001_1,x224000_1,x224001_1,rfl,HA,HK1,BK222,BK223,HB⟩:=hrel
  cases gk with
  | zero=>exact absurd HA.out (by simp [card_newCube.l0])
  | succ k1 =>
   have H:=HA.out
   clear HA
   simp only [card_newCube.l0] at H
   by_cases c4:x8_1 < (a0.size:Int)
   case neg =>
    rw [if_neg c4] at H
    have c4b0:decide (x8_1 < (a0.size:Int)) = false:=decide_eq_false c4
    clear c4
    simp only [Option.some.injEq,Prod.mk.injEq] at H
    obtain ⟨rfl,rfl,rfl⟩:=H
    have hnb41:=NB223_222.out
    have hnc41:=NB222_223.out
    have hcz42_0:wr.cell? ⟨gb223,0,none⟩ = some (.int .i64 x224000_1):=(blk_cell BK223.out 0).trans rfl
    have hcz42_1:wr.cell? ⟨gb223,1,none⟩ = some (.int .i64 x224001_1):=(blk_cell BK223.out 1).trans rfl
    have hfz42_0:=blk_frozen BK223.out 0
    have hfz42_1:=blk_frozen BK223.out 1
    have hcz43_0:wr.cell? ⟨gb222,0,none⟩ = some (.int .i64 x223000_1):=(blk_cell BK222.out 0).trans rfl
    have hcz43_1:wr.cell? ⟨gb222,1,none⟩ = some (.int .i64 x223001_1):=(blk_cell BK222.out 1).trans rfl
    have hfz43_0:=blk_frozen BK222.out 0
    have hfz43_1:=blk_frozen BK222.out 1
    go_wp2
    refine bodyPost_ret (results_ct rfl _ _ gb222 96 #[.int .i64 x224000_1,.int .i64 x224001_1] (0,0) _ rfl (by (with_reducible repeat (first | refine blk_drewN ?_ _ | refine blk_drew ?_ | refine blk_alloc ?_ _));refine blk_put (cs:=#[.int .i64 x224000_1,.int .i64 x223001_1]) ?_ 1 _ rfl;(with_reducible repeat (first | refine blk_drewN ?_ _ | refine blk_drew ?_ | refine blk_alloc ?_ _));refine blk_put (cs:=#[.int .i64 x223000_1,.int .i64 x223001_1]) ?_ 0 _ rfl;(with_reducible repeat (first | refine blk_drewN ?_ _ | refine blk_drew ?_ | refine blk_alloc ?_ _));exact BK222.out) Try.underlying96 rfl (by kernel_rfl)) rfl ?_
    exact ⟨by first | rfl | (simp [errW_none,errW_some] <;> rfl) | (simp [*,errW_none,errW_some] <;> rfl) | (simp;cases a0.toList <;> rfl),by repeat (first | (with_reducible first | exact HB.out | apply below_alloc | apply pw_below_drewN | apply below_drew1 | refine below_set ?_ GE222.out | refine below_set ?_ GE223.out) | exact HB.out)⟩
   rw [if_pos c4] at H
   have c4b0:decide (x8_1 < (a0.size:Int)) = true:=decide_eq_true c4
   clear c4
   by_cases c5:0 ≤ x8_1
   case neg =>
    rw [if_neg c5] at H
    exact absurd H (by simp)
   rw [if_pos c5] at H
   have c5b0:decide (0 ≤ x8_1) = true:=decide_eq_true c5
   clear c5
   by_cases c6:x8_1 < (a0.size:Int)
   case neg =>
    rw [if_neg c6] at H
    exact absurd H (by simp)
   rw [if_pos c6] at H
   have c6b0:decide (x8_1 < (a0.size:Int)) = true:=decide_eq_true c6
   clear c6
   by_cases c8:(bt a0 x8_1) = 48
   ·rw [if_pos c8] at H
    have c8b0:((bt a0 x8_1) == 48) = true:=beq_iff_eq.mpr c8
    have c8b1:((bt a0 x8_1) != 48) = false:=bne_eq_false_iff_eq.mpr c8
    clear c8
    have c9b0:=eq_true (of_decide_eq_true (by first | (with_reducible assumption) | assumption):0 ≤ x8_1)
    obtain ⟨ji10,hji10⟩:∃ j_:Int,(shl .i64 1 x8_1) = j_:=⟨_,rfl⟩
    replace H:(if x8_1 ≥ 5 then (some (0,0,false)) else (card_newCube.l0 k1 a0 (a0.size:Int) (wrap64 (x8_1 + 1)) (Go.bits .or .i64 x224000_1 (ji10)) x224001_1)) = some (r1,r2,r3):=by first | (rw [hji10] at H;exact H) | (simp only [hji10] at H ⊢;exact H)
    have hji10_:(IntKind.i64.wrap (1 * 2 ^ min x8_1.toNat 64)) = ji10:=hji10
    have hji10z:x8_1 ≤ 64 → (IntKind.i64.wrap (1 * 2 ^ x8_1.toNat)) = ji10:=shl_small hji10
    have hji10u:(IntKind.i64.wrap (2 ^ min x8_1.toNat 64)) = ji10:=by have h_:=hji10_;rw [Int.one_mul] at h_;exact h_
    have hji10v:x8_1 ≤ 64 → (IntKind.i64.wrap (2 ^ x8_1.toNat)) = ji10:=fun hle_=>by have h_:=hji10z hle_;rw [Int.one_mul] at h_;exact h_
    have hji10y:(wrap64 (1 * 2 ^ min x8_1.toNat 64)) = ji10:=(i64_w _).symm.trans hji10_
    have hji10x:x8_1 ≤ 64 → (wrap64 (1 * 2 ^ x8_1.toNat)) = ji10:=fun h_=>(i64_w _).symm.trans (hji10z h_)
    by_cases c11:x8_1 ≥ 5
    case neg =>
     rw [if_neg c11] at H
     have c11b0:decide (5 ≤ x8_1) = false:=decide_eq_false c11
     clear c11
     have H':=Aside0.mk H
     clear H
     have p7:0 ≤ (x8_1:Int):=of_decide_eq_true (by first | (with_reducible assumption) | assumption)
     have q7:x8_1 < (a0.size:Int):=of_decide_eq_true (by first | (with_reducible assumption) | assumption)
     have hx7:=bt_at a0 x8_1
     replace p7:=eq_true p7
     replace q7:=eq_true q7
     try go_wp2
     have n0_:=Aside0.mk (blk_drew BK222.out)
     have n1_:=Aside0.mk (blk_drew BK223.out)
     have n2_:=Aside0.mk (below_drew1 HB.out)
     clear BK222
     clear BK223
     clear HB
     have BK222:=n0_
     have BK223:=n1_
     have HB:=n2_
     clear n0_ n1_ n2_
     refine start_ (n:=7) (S:=fun w'=>w'.cell? ⟨gb223,0,none⟩ = some (.int .i64 x224000_1) ∧ w'.cell? ⟨gb223,1,none⟩ = some (.int .i64 x224001_1)) (ds:=[6]) #[false,false,false,false,false,false,false] (by kernel_rfl) rfl rfl ⟨(blk_cell BK223.out 0).trans rfl,(blk_cell BK223.out 1).trans rfl⟩ (fun hHeld=>?_)
     generalize wr.drew = w16 at BK222 BK223 HB hHeld ⊢
     refine pure_ (i:=0) (N:=some 17) (v:=?_) (a':=?_) #[true,false,false,false,false,false,false] rfl rfl (by kernel_rfl) (fun _ _ _ h=>h) (Or.inl ⟨by rfl,?_⟩) ?_ ?_
     rotate_left
     ·intro w'
      go_simp
      with_reducible rfl
     rotate_left
     ·simp only [Act.put,List.setIfInBounds_toArray,List.set_cons_zero,List.set_cons_succ,i64_w,i32_w]
      rfl
     refine pure_ (i:=2) (N:=some 19) (v:=?_) (a':=?_) #[true,false,true,false,false,false,false] rfl rfl (by kernel_rfl) (fun _ _ _ h=>h) (Or.inl ⟨by rfl,?_⟩) ?_ ?_
     rotate_left
     ·intro w'
      go_simp
      with_reducible rfl
     rotate_left
     ·simp only [Act.put,List.setIfInBounds_toArray,List.set_cons_zero,List.set_cons_succ,i64_w,i32_w]
      rfl
     refine pure_ (i:=3) (N:=some 20) (v:=?_) (a':=?_) #[true,false,true,true,false,false,false] rfl rfl (by kernel_rfl) (fun _ _ _ h=>h) (Or.inl ⟨by rfl,?_⟩) ?_ ?_
     rotate_left
     ·intro w'
      go_simp
      with_reducible rfl
     rotate_left
     ·simp only [Act.put,List.setIfInBounds_toArray,List.set_cons_zero,List.set_cons_succ,i64_w,i32_w]
      rfl
     refine take_ (i:=1) (N:=some 18) (v:=?_) (a':=?_) #[true,true,true,true,false,false,false] rfl rfl (by kernel_rfl) (fun _ _ _ h=>h) (Or.inl ⟨by rfl,?_⟩) hHeld ?_ ?_
     rotate_left
     ·rintro w' ⟨s0,s1⟩
      go_simp
      with_reducible rfl
     rotate_left
     ·simp only [Act.put,List.setIfInBounds_toArray,List.set_cons_zero,List.set_cons_succ,i64_w,i32_w]
      rfl
     refine pure_ (i:=4) (N:=some 21) (v:=?_) (a':=?_) #[true,true,true,true,true,false,false] rfl rfl (by kernel_rfl) (fun _ _ _ h=>h) (Or.inl ⟨by rfl,?_⟩) ?_ ?_
     rotate_left
     ·intro w'
      go_simp
      with_reducible rfl
     rotate_left
     ·simp only [Act.put,List.setIfInBounds_toArray,List.set_cons_zero,List.set_cons_succ,i64_w,i32_w]
      rfl
     refine pure_ (i:=5) (N:=some 22) (v:=?_) (a':=?_) #[true,true,true,true,true,true,false] rfl rfl (by kernel_rfl) (fun _ _ _ h=>h) (Or.inl ⟨by rfl,?_⟩) ?_ ?_
     rotate_left
     ·intro w'
      go_simp
      with_reducible rfl
     rotate_left
     ·simp only [Act.put,List.setIfInBounds_toArray,List.set_cons_zero,List.set_cons_succ,i64_w,i32_w]
      rfl
     refine last_ (i:=6) (N:=none) #[true,true,true,true,true,true,true] rfl rfl (by kernel_rfl) (by decide) (fun K hK=>?_)
     have hs17:w16.cell? ⟨gb223,0,none⟩ = some (.int .i64 x224000_1):=(blk_cell BK223.out 0).trans rfl
     have hfs17:=blk_frozen BK223.out 0
     have hns17_0:=NB222_223.out
     have hms17_0:=NB223_222.out
     refine skip_ (w1:=?_) (by rfl) rfl ?_ ?_
     rotate_left
     ·go_simp
      rfl
     refine hK.out _ _ ?_
     clear hK K
     refine done_ (by kernel_rfl) ?_
     try go_wp2
     go_roundg k1
     case measure=>have:=HK1.out;omega
     case rel=>exact ⟨(wrap64 (x8_1 + 1)),(x223000_1),(x223001_1),(Go.bits .or .i64 x224000_1 (ji10)),(x224001_1),(by first | rfl | (simp;done) | (simp [*];done)),H',⟨by have:=HK1.out;omega⟩,⟨by (with_reducible repeat (first | refine blk_drewN ?_ _ | refine blk_drew ?_ | refine blk_alloc ?_ _));refine blk_far ?_ NB222_223.out _;(with_reducible repeat (first | refine blk_drewN ?_ _ | refine blk_drew ?_ | refine blk_alloc ?_ _));exact BK222.out⟩,⟨by (with_reducible repeat (first | refine blk_drewN ?_ _ | refine blk_drew ?_ | refine blk_alloc ?_ _));refine blk_put (cs:=#[.int .i64 x224000_1,.int .i64 x224001_1]) ?_ 0 _ rfl;(with_reducible repeat (first | refine blk_drewN ?_ _ | refine blk_drew ?_ | refine blk_alloc ?_ _));exact BK223.out⟩,⟨by repeat (first | (with_reducible first | exact HB.out | apply below_alloc | apply pw_below_drewN | apply below_drew1 | refine below_set ?_ GE222.out | refine below_set ?_ GE223.out) | exact HB.out)⟩⟩
    rw [if_pos c11] at H
    have c11b0:decide (5 ≤ x8_1) = true:=decide_eq_true c11
    clear c11
    simp only [Option.some.injEq,Prod.mk.injEq] at H
    obtain ⟨rfl,rfl,rfl⟩:=H
    have p7:0 ≤ (x8_1:Int):=of_decide_eq_true (by first | (with_reducible assumption) | assumption)
    have q7:x8_1 < (a0.size:Int):=of_decide_eq_true (by first | (with_reducible assumption) | assumption)
    have hx7:=bt_at a0 x8_1
    replace p7:=eq_true p7
    replace q7:=eq_true q7
    try go_wp2
    have n0_:=Aside0.mk (blk_drew BK222.out)
    have n1_:=Aside0.mk (blk_drew BK223.out)
    have n2_:=Aside0.mk (below_drew1 HB.out)
    clear BK222
    clear BK223
    clear HB
    have BK222:=n0_
    have BK223:=n1_
    have HB:=n2_
    clear n0_ n1_ n2_
    refine start_ (n:=7) (S:=fun w'=>w'.cell? ⟨gb223,0,none⟩ = some (.int .i64 x224000_1) ∧ w'.cell? ⟨gb223,1,none⟩ = some (.int .i64 x224001_1)) (ds:=[6]) #[false,false,false,false,false,false,false] (by kernel_rfl) rfl rfl ⟨(blk_cell BK223.out 0).trans rfl,(blk_cell BK223.out 1).trans rfl⟩ (fun hHeld=>?_)
    generalize wr.drew = w12 at BK222 BK223 HB hHeld ⊢
    refine pure_ (i:=0) (N:=some 17) (v:=?_) (a':=?_) #[true,false,false,false,false,false,false] rfl rfl (by kernel_rfl) (fun _ _ _ h=>h) (Or.inl ⟨by rfl,?_⟩) ?_ ?_
    rotate_left
    ·intro w'
     go_simp
     with_reducible rfl
    rotate_left
    ·simp only [Act.put,List.setIfInBounds_toArray,List.set_cons_zero,List.set_cons_succ,i64_w,i32_w]
     rfl
    refine pure_ (i:=2) (N:=some 19) (v:=?_) (a':=?_) #[true,false,true,false,false,false,false] rfl rfl (by kernel_rfl) (fun _ _ _ h=>h) (Or.inl ⟨by rfl,?_⟩) ?_ ?_
    rotate_left
    ·intro w'
     go_simp
     with_reducible rfl
    rotate_left
    ·simp only [Act.put,List.setIfInBounds_toArray,List.set_cons_zero,List.set_cons_succ,i64_w,i32_w]
     rfl
    refine pure_ (i:=3) (N:=some 20) (v:=?_) (a':=?_) #[true,false,true,true,false,false,false] rfl rfl (by kernel_rfl) (fun _ _ _ h=>h) (Or.inl ⟨by rfl,?_⟩) ?_ ?_
    rotate_left
    ·intro w'
     go_simp
     with_reducible rfl
    rotate_left
    ·simp only [Act.put,List.setIfInBounds_toArray,List.set_cons_zero,List.set_cons_succ,i64_w,i32_w]
     rfl
    refine take_ (i:=1) (N:=some 18) (v:=?_) (a':=?_) #[true,true,true,true,false,false,false] rfl rfl (by kernel_rfl) (fun _ _ _ h=>h) (Or.inl ⟨by rfl,?_⟩) hHeld ?_ ?_
    rotate_left
    ·rintro w' ⟨s0,s1⟩
     go_simp
     with_reducible rfl
    rotate_left
    ·simp only [Act.put,List.setIfInBounds_toArray,List.set_cons_zero,List.set_cons_succ,i64_w,i32_w]
     rfl
    refine pure_ (i:=4) (N:=some 21) (v:=?_) (a':=?_) #[true,true,true,true,true,false,false] rfl rfl (by kernel_rfl) (fun _ _ _ h=>h) (Or.inl ⟨by rfl,?_⟩) ?_ ?_
    rotate_left
    ·intro w'
     go_simp
     with_reducible rfl
    rotate_left
    ·simp only [Act.put,List.setIfInBounds_toArray,List.set_cons_zero,List.set_cons_succ,i64_w,i32_w]
     rfl
    refine pure_ (i:=5) (N:=some 22) (v:=?_) (a':=?_) #[true,true,true,true,true,true,false] rfl rfl (by kernel_rfl) (fun _ _ _ h=>h) (Or.inl ⟨by rfl,?_⟩) ?_ ?_
    rotate_left
    ·intro w'
     go_simp
     with_reducible rfl
    rotate_left
    ·simp only [Act.put,List.setIfInBounds_toArray,List.set_cons_zero,List.set_cons_succ,i64_w,i32_w]
     rfl
    refine last_ (i:=6) (N:=none) #[true,true,true,true,true,true,true] rfl rfl (by kernel_rfl) (by decide) (fun K hK=>?_)
    have hs13:w12.cell? ⟨gb223,0,none⟩ = some (.int .i64 x224000_1):=(blk_cell BK223.out 0).trans rfl
    have hfs13:=blk_frozen BK223.out 0
    have hns13_0:=NB222_223.out
    have hms13_0:=NB223_222.out
    refine skip_ (w1:=?_) (by rfl) rfl ?_ ?_
    rotate_left
    ·go_simp
     rfl
    refine hK.out _ _ ?_
    clear hK K
    refine done_ (by kernel_rfl) ?_
    have hnb14:=NB222_223.out
    have hnc14:=NB223_222.out
    have hcz15_0:w12.cell? ⟨gb222,0,none⟩ = some (.int .i64 x223000_1):=(blk_cell BK222.out 0).trans rfl
    have hcz15_1:w12.cell? ⟨gb222,1,none⟩ = some (.int .i64 x223001_1):=(blk_cell BK222.out 1).trans rfl
    have hfz15_0:=blk_frozen BK222.out 0
    have hfz15_1:=blk_frozen BK222.out 1
    try go_wp2
    refine bodyPost_ret (results_ct rfl _ _ gb222 96 #[.int .i64 0,.int .i64 0] (0,0) _ rfl (by (with_reducible repeat (first | refine blk_drewN ?_ _ | refine blk_drew ?_ | refine blk_alloc ?_ _));refine blk_put (cs:=#[.int .i64 0,.int .i64 x223001_1]) ?_ 1 _ rfl;(with_reducible repeat (first | refine blk_drewN ?_ _ | refine blk_drew ?_ | refine blk_alloc ?_ _));refine blk_put (cs:=#[.int .i64 x223000_1,.int .i64 x223001_1]) ?_ 0 _ rfl;(with_reducible repeat (first | refine blk_drewN ?_ _ | refine blk_drew ?_ | refine blk_alloc ?_ _));refine blk_far ?_ NB222_223.out _;(with_reducible repeat (first | refine blk_drewN ?_ _ | refine blk_drew ?_ | refine blk_alloc ?_ _));exact BK222.out) Try.underlying96 rfl (by kernel_rfl)) rfl ?_
    exact ⟨by first | rfl | (simp [errW_none,errW_some] <;> rfl) | (simp only [← hji10];first | rfl | (simp [errW_none,errW_some] <;> rfl)) | (simp [*,errW_none,errW_some] <;> rfl) | (simp;cases a0.toList <;> rfl),by repeat (first | (with_reducible first | exact HB.out | apply below_alloc | apply pw_below_drewN | apply below_drew1 | refine below_set ?_ GE222.out | refine below_set ?_ GE223.out) | exact HB.out)⟩
   rw [if_neg c8] at H
   have c8b0:((bt a0 x8_1) == 48) = false:=beq_eq_false_iff_ne.mpr c8
   have c8b1:((bt a0 x8_1) != 48) = true:=bne_iff_ne.mpr c8
   by_cases c18:(bt a0 x8_1) = 49
   case neg =>
    rw [if_neg c18] at H
    have c18b0:((bt a0 x8_1) == 49) = false:=beq_eq_false_iff_ne.mpr c18
    have c18b1:((bt a0 x8_1) != 49) = true:=bne_iff_ne.mpr c18
    by_cases c35:(bt a0 x8_1) = 45
    case neg =>
     rw [if_neg c35] at H
     have c35b0:((bt a0 x8_1) == 45) = false:=beq_eq_false_iff_ne.mpr c35
     have c35b1:((bt a0 x8_1) != 45) = true:=bne_iff_ne.mpr c35
     simp only [Option.some.injEq,Prod.mk.injEq] at H
     obtain ⟨rfl,rfl,rfl⟩:=H
     have p7:0 ≤ (x8_1:Int):=of_decide_eq_true (by first | (with_reducible assumption) | assumption)
     have q7:x8_1 < (a0.size:Int):=of_decide_eq_true (by first | (with_reducible assumption) | assumption)
     have hx7:=bt_at a0 x8_1
     replace p7:=eq_true p7
     replace q7:=eq_true q7
     have hnb39:=NB222_223.out
     have hnc39:=NB223_222.out
     have hcz40_0:wr.cell? ⟨gb222,0,none⟩ = some (.int .i64 x223000_1):=(blk_cell BK222.out 0).trans rfl
     have hcz40_1:wr.cell? ⟨gb222,1,none⟩ = some (.int .i64 x223001_1):=(blk_cell BK222.out 1).trans rfl
     have hfz40_0:=blk_frozen BK222.out 0
     have hfz40_1:=blk_frozen BK222.out 1
     go_wp2
     refine bodyPost_ret (results_ct rfl _ _ gb222 96 #[.int .i64 0,.int .i64 0] (0,0) _ rfl (by (with_reducible repeat (first | refine blk_drewN ?_ _ | refine blk_drew ?_ | refine blk_alloc ?_ _));refine blk_put (cs:=#[.int .i64 0,.int .i64 x223001_1]) ?_ 1 _ rfl;(with_reducible repeat (first | refine blk_drewN ?_ _ | refine blk_drew ?_ | refine blk_alloc ?_ _));refine blk_put (cs:=#[.int .i64 x223000_1,.int .i64 x223001_1]) ?_ 0 _ rfl;(with_reducible repeat (first | refine blk_drewN ?_ _ | refine blk_drew ?_ | refine blk_alloc ?_ _));exact BK222.out) Try.underlying96 rfl (by kernel_rfl)) rfl ?_
     exact ⟨by first | rfl | (simp [errW_none,errW_some] <;> rfl) | (simp [*,errW_none,errW_some] <;> rfl) | (simp;cases a0.toList <;> rfl),by repeat (first | (with_reducible first | exact HB.out | apply below_alloc | apply pw_below_drewN | apply below_drew1 | refine below_set ?_ GE222.out | refine below_set ?_ GE223.out) | exact HB.out)⟩
    rw [if_pos c35] at H
    have c35b0:((bt a0 x8_1) == 45) = true:=beq_iff_eq.mpr c35
    have c35b1:((bt a0 x8_1) != 45) = false:=bne_eq_false_iff_eq.mpr c35
    clear c35
    by_cases c36:x8_1 ≥ 5
    case neg =>
     rw [if_neg c36] at H
     have c36b0:decide (5 ≤ x8_1) = false:=decide_eq_false c36
     clear c36
     have H':=Aside0.mk H
     clear H
     have p7:0 ≤ (x8_1:Int):=of_decide_eq_true (by first | (with_reducible assumption) | assumption)
     have q7:x8_1 < (a0.size:Int):=of_decide_eq_true (by first | (with_reducible assumption) | assumption)
     have hx7:=bt_at a0 x8_1
     replace p7:=eq_true p7
     replace q7:=eq_true q7
     go_wp2
     go_roundg k1
     case measure=>have:=HK1.out;omega
     case rel=>exact ⟨(wrap64 (x8_1 + 1)),(x223000_1),(x223001_1),(x224000_1),(x224001_1),(by first | rfl | (simp;done) | (simp [*];done)),H',⟨by have:=HK1.out;omega⟩,⟨by (with_reducible repeat (first | refine blk_drewN ?_ _ | refine blk_drew ?_ | refine blk_alloc ?_ _));exact BK222.out⟩,⟨by (with_reducible repeat (first | refine blk_drewN ?_ _ | refine blk_drew ?_ | refine blk_alloc ?_ _));exact BK223.out⟩,⟨by repeat (first | (with_reducible first | exact HB.out | apply below_alloc | apply pw_below_drewN | apply below_drew1 | refine below_set ?_ GE222.out | refine below_set ?_ GE223.out) | exact HB.out)⟩⟩
    rw [if_pos c36] at H
    have c36b0:decide (5 ≤ x8_1) = true:=decide_eq_true c36
    clear c36
    simp only [Option.some.injEq,Prod.mk.injEq] at H
    obtain ⟨rfl,rfl,rfl⟩:=H
    have p7:0 ≤ (x8_1:Int):=of_decide_eq_true (by first | (with_reducible assumption) | assumption)
    have q7:x8_1 < (a0.size:Int):=of_decide_eq_true (by first | (with_reducible assumption) | assumption)
    have hx7:=bt_at a0 x8_1
    replace p7:=eq_true p7
    replace q7:=eq_true q7
    have hnb37:=NB222_223.out
    have hnc37:=NB223_222.out
    have hcz38_0:wr.cell? ⟨gb222,0,none⟩ = some (.int .i64 x223000_1):=(blk_cell BK222.out 0).trans rfl
    have hcz38_1:wr.cell? ⟨gb222,1,none⟩ = some (.int .i64 x223001_1):=(blk_cell BK222.out 1).trans rfl
    have hfz38_0:=blk_frozen BK222.out 0
    have hfz38_1:=blk_frozen BK222.out 1
    go_wp2
    refine bodyPost_ret (results_ct rfl _ _ gb222 96 #[.int .i64 0,.int .i64 0] (0,0) _ rfl (by (with_reducible repeat (first | refine blk_drewN ?_ _ | refine blk_drew ?_ | refine blk_alloc ?_ _));refine blk_put (cs:=#[.int .i64 0,.int .i64 x223001_1]) ?_ 1 _ rfl;(with_reducible repeat (first | refine blk_drewN ?_ _ | refine blk_drew ?_ | refine blk_alloc ?_ _));refine blk_put (cs:=#[.int .i64 x223000_1,.int .i64 x223001_1]) ?_ 0 _ rfl;(with_reducible repeat (first | refine blk_drewN ?_ _ | refine blk_drew ?_ | refine blk_alloc ?_ _));exact BK222.out) Try.underlying96 rfl (by kernel_rfl)) rfl ?_
    exact ⟨by first | rfl | (simp [errW_none,errW_some] <;> rfl) | (simp [*,errW_none,errW_some] <;> rfl) | (simp;cases a0.toList <;> rfl),by repeat (first | (with_reducible first | exact HB.out | apply below_alloc | apply pw_below_drewN | apply below_drew1 | refine below_set ?_ GE222.out | refine below_set ?_ GE223.out) | exact HB.out)⟩
   rw [if_pos c18] at H
   have c18b0:((bt a0 x8_1) == 49) = true:=beq_iff_eq.mpr c18
   have c18b1:((bt a0 x8_1) != 49) = false:=bne_eq_false_iff_eq.mpr c18
   clear c18
   have c19b0:=eq_true (of_decide_eq_true (by first | (with_reducible assumption) | assumption):0 ≤ x8_1)
   obtain ⟨ji20,hji20⟩:∃ j_:Int,(shl .i64 1 x8_1) = j_:=⟨_,rfl⟩
   replace H:(if x8_1 ≥ 5 then (some (0,0,false)) else (card_newCube.l0 k1 a0 (a0.size:Int) (wrap64 (x8_1 + 1)) (Go.bits .or .i64 x224000_1 (ji20)) (Go.bits .or .i64 x224001_1 (ji20)))) = some (r1,r2,r3):=by first | (rw [hji20] at H;exact H) | (simp only [hji20] at H ⊢;exact H)
   have hji20_:(IntKind.i64.wrap (1 * 2 ^ min x8_1.toNat 64)) = ji20:=hji20
   have hji20z:x8_1 ≤ 64 → (IntKind.i64.wrap (1 * 2 ^ x8_1.toNat)) = ji20:=shl_small hji20
   have hji20u:(IntKind.i64.wrap (2 ^ min x8_1.toNat 64)) = ji20:=by have h_:=hji20_;rw [Int.one_mul] at h_;exact h_
   have hji20v:x8_1 ≤ 64 → (IntKind.i64.wrap (2 ^ x8_1.toNat)) = ji20:=fun hle_=>by have h_:=hji20z hle_;rw [Int.one_mul] at h_;exact h_
   have hji20y:(wrap64 (1 * 2 ^ min x8_1.toNat 64)) = ji20:=(i64_w _).symm.trans hji20_
   have hji20x:x8_1 ≤ 64 → (wrap64 (1 * 2 ^ x8_1.toNat)) = ji20:=fun h_=>(i64_w _).symm.trans (hji20z h_)
   have c21b0:=eq_true (of_decide_eq_true (by first | (with_reducible assumption) | assumption):0 ≤ x8_1)
   by_cases c22:x8_1 ≥ 5
   case neg =>
    rw [if_neg c22] at H
    have c22b0:decide (5 ≤ x8_1) = false:=decide_eq_false c22
    clear c22
    have H':=Aside0.mk H
    clear H
    have p7:0 ≤ (x8_1:Int):=of_decide_eq_true (by first | (with_reducible assumption) | assumption)
    have q7:x8_1 < (a0.size:Int):=of_decide_eq_true (by first | (with_reducible assumption) | assumption)
    have hx7:=bt_at a0 x8_1
    replace p7:=eq_true p7
    replace q7:=eq_true q7
    try go_wp2
    have n0_:=Aside0.mk (blk_drew BK222.out)
    have n1_:=Aside0.mk (blk_drew BK223.out)
    have n2_:=Aside0.mk (below_drew1 HB.out)
    clear BK222
    clear BK223
    clear HB
    have BK222:=n0_
    have BK223:=n1_
    have HB:=n2_
    clear n0_ n1_ n2_
    refine start_ (n:=7) (S:=fun w'=>w'.cell? ⟨gb223,0,none⟩ = some (.int .i64 x224000_1) ∧ w'.cell? ⟨gb223,1,none⟩ = some (.int .i64 x224001_1)) (ds:=[6]) #[false,false,false,false,false,false,false] (by kernel_rfl) rfl rfl ⟨(blk_cell BK223.out 0).trans rfl,(blk_cell BK223.out 1).trans rfl⟩ (fun hHeld=>?_)
    generalize wr.drew = w30 at BK222 BK223 HB hHeld ⊢
    refine pure_ (i:=0) (N:=some 25) (v:=?_) (a':=?_) #[true,false,false,false,false,false,false] rfl rfl (by kernel_rfl) (fun _ _ _ h=>h) (Or.inl ⟨by rfl,?_⟩) ?_ ?_
    rotate_left
    ·intro w'
     go_simp
     with_reducible rfl
    rotate_left
    ·simp only [Act.put,List.setIfInBounds_toArray,List.set_cons_zero,List.set_cons_succ,i64_w,i32_w]
     rfl
    refine pure_ (i:=2) (N:=some 27) (v:=?_) (a':=?_) #[true,false,true,false,false,false,false] rfl rfl (by kernel_rfl) (fun _ _ _ h=>h) (Or.inl ⟨by rfl,?_⟩) ?_ ?_
    rotate_left
    ·intro w'
     go_simp
     with_reducible rfl
    rotate_left
    ·simp only [Act.put,List.setIfInBounds_toArray,List.set_cons_zero,List.set_cons_succ,i64_w,i32_w]
     rfl
    refine pure_ (i:=3) (N:=some 28) (v:=?_) (a':=?_) #[true,false,true,true,false,false,false] rfl rfl (by kernel_rfl) (fun _ _ _ h=>h) (Or.inl ⟨by rfl,?_⟩) ?_ ?_
    rotate_left
    ·intro w'
     go_simp
     with_reducible rfl
    rotate_left
    ·simp only [Act.put,List.setIfInBounds_toArray,List.set_cons_zero,List.set_cons_succ,i64_w,i32_w]
     rfl
    refine take_ (i:=1) (N:=some 26) (v:=?_) (a':=?_) #[true,true,true,true,false,false,false] rfl rfl (by kernel_rfl) (fun _ _ _ h=>h) (Or.inl ⟨by rfl,?_⟩) hHeld ?_ ?_
    rotate_left
    ·rintro w' ⟨s0,s1⟩
     go_simp
     with_reducible rfl
    rotate_left
    ·simp only [Act.put,List.setIfInBounds_toArray,List.set_cons_zero,List.set_cons_succ,i64_w,i32_w]
     rfl
    refine pure_ (i:=4) (N:=some 29) (v:=?_) (a':=?_) #[true,true,true,true,true,false,false] rfl rfl (by kernel_rfl) (fun _ _ _ h=>h) (Or.inl ⟨by rfl,?_⟩) ?_ ?_
    rotate_left
    ·intro w'
     go_simp
     with_reducible rfl
    rotate_left
    ·simp only [Act.put,List.setIfInBounds_toArray,List.set_cons_zero,List.set_cons_succ,i64_w,i32_w]
     rfl
    refine pure_ (i:=5) (N:=some 30) (v:=?_) (a':=?_) #[true,true,true,true,true,true,false] rfl rfl (by kernel_rfl) (fun _ _ _ h=>h) (Or.inl ⟨by rfl,?_⟩) ?_ ?_
    rotate_left
    ·intro w'
     go_simp
     with_reducible rfl
    rotate_left
    ·simp only [Act.put,List.setIfInBounds_toArray,List.set_cons_zero,List.set_cons_succ,i64_w,i32_w]
     rfl
    refine last_ (i:=6) (N:=none) #[true,true,true,true,true,true,true] rfl rfl (by kernel_rfl) (by decide) (fun K hK=>?_)
    have hs31:w30.cell? ⟨gb223,0,none⟩ = some (.int .i64 x224000_1):=(blk_cell BK223.out 0).trans rfl
    have hfs31:=blk_frozen BK223.out 0
    have hns31_0:=NB222_223.out
    have hms31_0:=NB223_222.out
    refine skip_ (w1:=?_) (by rfl) rfl ?_ ?_
    rotate_left
    ·go_simp
     rfl
    refine hK.out _ _ ?_
    clear hK K
    refine done_ (by kernel_rfl) ?_
    try go_wp2
    have n0_:Aside0 ((w30.setCell ⟨gb223,0,none⟩ (.int .i64 (Go.bits .or .i64 x224000_1 (ji20)))).heap[gb222]? = some (.cells #[.int .i64 x223000_1,.int .i64 x223001_1] 96 (0,0))):=⟨by (with_reducible repeat (first | refine blk_drewN ?_ _ | refine blk_drew ?_ | refine blk_alloc ?_ _));refine blk_far ?_ NB222_223.out _;(with_reducible repeat (first | refine blk_drewN ?_ _ | refine blk_drew ?_ | refine blk_alloc ?_ _));exact BK222.out⟩
    have n1_:Aside0 ((w30.setCell ⟨gb223,0,none⟩ (.int .i64 (Go.bits .or .i64 x224000_1 (ji20)))).heap[gb223]? = some (.cells #[.int .i64 (Go.bits .or .i64 x224000_1 (ji20)),.int .i64 x224001_1] 96 (0,0))):=⟨by (with_reducible repeat (first | refine blk_drewN ?_ _ | refine blk_drew ?_ | refine blk_alloc ?_ _));refine blk_put (cs:=#[.int .i64 x224000_1,.int .i64 x224001_1]) ?_ 0 _ rfl;(with_reducible repeat (first | refine blk_drewN ?_ _ | refine blk_drew ?_ | refine blk_alloc ?_ _));exact BK223.out⟩
    have n2_:Aside0 (Below w.heap.size w (w30.setCell ⟨gb223,0,none⟩ (.int .i64 (Go.bits .or .i64 x224000_1 (ji20))))):=⟨by repeat (first | (with_reducible first | exact HB.out | apply below_alloc | apply pw_below_drewN | apply below_drew1 | refine below_set ?_ GE222.out | refine below_set ?_ GE223.out) | exact HB.out)⟩
    (try clear BK222)
    (try clear BK223)
    (try clear HB)
    generalize (w30.setCell ⟨gb223,0,none⟩ (.int .i64 (Go.bits .or .i64 x224000_1 (ji20)))) = w32 at n0_ n1_ n2_ ⊢
    have BK222:=n0_
    have BK223:=n1_
    have HB:=n2_
    clear n0_ n1_ n2_
    have n0_:=Aside0.mk (blk_drew BK222.out)
    have n1_:=Aside0.mk (blk_drew BK223.out)
    have n2_:=Aside0.mk (below_drew1 HB.out)
    clear BK222
    clear BK223
    clear HB
    have BK222:=n0_
    have BK223:=n1_
    have HB:=n2_
    clear n0_ n1_ n2_
    refine start_ (n:=7) (S:=fun w'=>w'.cell? ⟨gb223,0,none⟩ = some (.int .i64 (Go.bits .or .i64 x224000_1 (ji20))) ∧ w'.cell? ⟨gb223,1,none⟩ = some (.int .i64 x224001_1)) (ds:=[6]) #[false,false,false,false,false,false,false] (by kernel_rfl) rfl rfl ⟨(blk_cell BK223.out 0).trans rfl,(blk_cell BK223.out 1).trans rfl⟩ (fun hHeld=>?_)
    generalize w32.drew = w33 at BK222 BK223 HB hHeld ⊢
    refine pure_ (i:=0) (N:=some 31) (v:=?_) (a':=?_) #[true,false,false,false,false,false,false] rfl rfl (by kernel_rfl) (fun _ _ _ h=>h) (Or.inl ⟨by rfl,?_⟩) ?_ ?_
    rotate_left
    ·intro w'
     go_simp
     with_reducible rfl
    rotate_left
    ·simp only [Act.put,List.setIfInBounds_toArray,List.set_cons_zero,List.set_cons_succ,i64_w,i32_w]
     rfl
    refine pure_ (i:=2) (N:=some 33) (v:=?_) (a':=?_) #[true,false,true,false,false,false,false] rfl rfl (by kernel_rfl) (fun _ _ _ h=>h) (Or.inl ⟨by rfl,?_⟩) ?_ ?_
    rotate_left
    ·intro w'
     go_simp
     with_reducible rfl
    rotate_left
    ·simp only [Act.put,List.setIfInBounds_toArray,List.set_cons_zero,List.set_cons_succ,i64_w,i32_w]
     rfl
    refine pure_ (i:=3) (N:=some 34) (v:=?_) (a':=?_) #[true,false,true,true,false,false,false] rfl rfl (by kernel_rfl) (fun _ _ _ h=>h) (Or.inl ⟨by rfl,?_⟩) ?_ ?_
    rotate_left
    ·intro w'
     go_simp
     with_reducible rfl
    rotate_left
    ·simp only [Act.put,List.setIfInBounds_toArray,List.set_cons_zero,List.set_cons_succ,i64_w,i32_w]
     rfl
    refine take_ (i:=1) (N:=some 32) (v:=?_) (a':=?_) #[true,true,true,true,false,false,false] rfl rfl (by kernel_rfl) (fun _ _ _ h=>h) (Or.inl ⟨by rfl,?_⟩) hHeld ?_ ?_
    rotate_left
    ·rintro w' ⟨s0,s1⟩
     go_simp
     with_reducible rfl
    rotate_left
    ·simp only [Act.put,List.setIfInBounds_toArray,List.set_cons_zero,List.set_cons_succ,i64_w,i32_w]
     rfl
    refine pure_ (i:=4) (N:=some 35) (v:=?_) (a':=?_) #[true,true,true,true,true,false,false] rfl rfl (by kernel_rfl) (fun _ _ _ h=>h) (Or.inl ⟨by rfl,?_⟩) ?_ ?_
    rotate_left
    ·intro w'
     go_simp
     with_reducible rfl
    rotate_left
    ·simp only [Act.put,List.setIfInBounds_toArray,List.set_cons_zero,List.set_cons_succ,i64_w,i32_w]
     rfl
    refine pure_ (i:=5) (N:=some 36) (v:=?_) (a':=?_) #[true,true,true,true,true,true,false] rfl rfl (by kernel_rfl) (fun _ _ _ h=>h) (Or.inl ⟨by rfl,?_⟩) ?_ ?_
    rotate_left
    ·intro w'
     go_simp
     with_reducible rfl
    rotate_left
    ·simp only [Act.put,List.setIfInBounds_toArray,List.set_cons_zero,List.set_cons_succ,i64_w,i32_w]
     rfl
    refine last_ (i:=6) (N:=none) #[true,true,true,true,true,true,true] rfl rfl (by kernel_rfl) (by decide) (fun K hK=>?_)
    have hs34:w33.cell? ⟨gb223,1,none⟩ = some (.int .i64 x224001_1):=(blk_cell BK223.out 1).trans rfl
    have hfs34:=blk_frozen BK223.out 1
    have hns34_0:=NB222_223.out
    have hms34_0:=NB223_222.out
    refine skip_ (w1:=?_) (by rfl) rfl ?_ ?_
    rotate_left
    ·go_simp
     rfl
    refine hK.out _ _ ?_
    clear hK K
    refine done_ (by kernel_rfl) ?_
    try go_wp2
    go_roundg k1
    case measure=>have:=HK1.out;omega
    case rel=>exact ⟨(wrap64 (x8_1 + 1)),(x223000_1),(x223001_1),(Go.bits .or .i64 x224000_1 (ji20)),(Go.bits .or .i64 x224001_1 (ji20)),(by first | rfl | (simp;done) | (simp [*];done)),H',⟨by have:=HK1.out;omega⟩,⟨by (with_reducible repeat (first | refine blk_drewN ?_ _ | refine blk_drew ?_ | refine blk_alloc ?_ _));refine blk_far ?_ NB222_223.out _;(with_reducible repeat (first | refine blk_drewN ?_ _ | refine blk_drew ?_ | refine blk_alloc ?_ _));exact BK222.out⟩,⟨by (with_reducible repeat (first | refine blk_drewN ?_ _ | refine blk_drew ?_ | refine blk_alloc ?_ _));refine blk_put (cs:=#[.int .i64 (Go.bits .or .i64 x224000_1 (ji20)),.int .i64 x224001_1]) ?_ 1 _ rfl;(with_reducible repeat (first | refine blk_drewN ?_ _ | refine blk_drew ?_ | refine blk_alloc ?_ _));exact BK223.out⟩,⟨by repeat (first | (with_reducible first | exact HB.out | apply below_alloc | apply pw_below_drewN | apply below_drew1 | refine below_set ?_ GE222.out | refine below_set ?_ GE223.out) | exact HB.out)⟩⟩
   rw [if_pos c22] at H
   have c22b0:decide (5 ≤ x8_1) = true:=decide_eq_true c22
   clear c22
   simp only [Option.some.injEq,Prod.mk.injEq] at H
   obtain ⟨rfl,rfl,rfl⟩:=H
   have p7:0 ≤ (x8_1:Int):=of_decide_eq_true (by first | (with_reducible assumption) | assumption)
   have q7:x8_1 < (a0.size:Int):=of_decide_eq_true (by first | (with_reducible assumption) | assumption)
   have hx7:=bt_at a0 x8_1
   replace p7:=eq_true p7
   replace q7:=eq_true q7
   try go_wp2
   have n0_:=Aside0.mk (blk_drew BK222.out)
   have n1_:=Aside0.mk (blk_drew BK223.out)
   have n2_:=Aside0.mk (below_drew1 HB.out)
   clear BK222
   clear BK223
   clear HB
   have BK222:=n0_
   have BK223:=n1_
   have HB:=n2_
   clear n0_ n1_ n2_
   refine start_ (n:=7) (S:=fun w'=>w'.cell? ⟨gb223,0,none⟩ = some (.int .i64 x224000_1) ∧ w'.cell? ⟨gb223,1,none⟩ = some (.int .i64 x224001_1)) (ds:=[6]) #[false,false,false,false,false,false,false] (by kernel_rfl) rfl rfl ⟨(blk_cell BK223.out 0).trans rfl,(blk_cell BK223.out 1).trans rfl⟩ (fun hHeld=>?_)
   generalize wr.drew = w23 at BK222 BK223 HB hHeld ⊢
   refine pure_ (i:=0) (N:=some 25) (v:=?_) (a':=?_) #[true,false,false,false,false,false,false] rfl rfl (by kernel_rfl) (fun _ _ _ h=>h) (Or.inl ⟨by rfl,?_⟩) ?_ ?_
   rotate_left
   ·intro w'
    go_simp
    with_reducible rfl
   rotate_left
   ·simp only [Act.put,List.setIfInBounds_toArray,List.set_cons_zero,List.set_cons_succ,i64_w,i32_w]
    rfl
   refine pure_ (i:=2) (N:=some 27) (v:=?_) (a':=?_) #[true,false,true,false,false,false,false] rfl rfl (by kernel_rfl) (fun _ _ _ h=>h) (Or.inl ⟨by rfl,?_⟩) ?_ ?_
   rotate_left
   ·intro w'
    go_simp
    with_reducible rfl
   rotate_left
   ·simp only [Act.put,List.setIfInBounds_toArray,List.set_cons_zero,List.set_cons_succ,i64_w,i32_w]
    rfl
   refine pure_ (i:=3) (N:=some 28) (v:=?_) (a':=?_) #[true,false,true,true,false,false,false] rfl rfl (by kernel_rfl) (fun _ _ _ h=>h) (Or.inl ⟨by rfl,?_⟩) ?_ ?_
   rotate_left
   ·intro w'
    go_simp
    with_reducible rfl
   rotate_left
   ·simp only [Act.put,List.setIfInBounds_toArray,List.set_cons_zero,List.set_cons_succ,i64_w,i32_w]
    rfl
   refine take_ (i:=1) (N:=some 26) (v:=?_) (a':=?_) #[true,true,true,true,false,false,false] rfl rfl (by kernel_rfl) (fun _ _ _ h=>h) (Or.inl ⟨by rfl,?_⟩) hHeld ?_ ?_
   rotate_left
   ·rintro w' ⟨s0,s1⟩
    go_simp
    with_reducible rfl
   rotate_left
   ·simp only [Act.put,List.setIfInBounds_toArray,List.set_cons_zero,List.set_cons_succ,i64_w,i32_w]
    rfl
   refine pure_ (i:=4) (N:=some 29) (v:=?_) (a':=?_) #[true,true,true,true,true,false,false] rfl rfl (by kernel_rfl) (fun _ _ _ h=>h) (Or.inl ⟨by rfl,?_⟩) ?_ ?_
   rotate_left
   ·intro w'
    go_simp
    with_reducible rfl
   rotate_left
   ·simp only [Act.put,List.setIfInBounds_toArray,List.set_cons_zero,List.set_cons_succ,i64_w,i32_w]
    rfl
   refine pure_ (i:=5) (N:=some 30) (v:=?_) (a':=?_) #[true,true,true,true,true,true,false] rfl rfl (by kernel_rfl) (fun _ _ _ h=>h) (Or.inl ⟨by rfl,?_⟩) ?_ ?_
   rotate_left
   ·intro w'
    go_simp
    with_reducible rfl
   rotate_left
   ·simp only [Act.put,List.setIfInBounds_toArray,List.set_cons_zero,List.set_cons_succ,i64_w,i32_w]
    rfl
   refine last_ (i:=6) (N:=none) #[true,true,true,true,true,true,true] rfl rfl (by kernel_rfl) (by decide) (fun K hK=>?_)
   have hs24:w23.cell? ⟨gb223,0,none⟩ = some (.int .i64 x224000_1):=(blk_cell BK223.out 0).trans rfl
   have hfs24:=blk_frozen BK223.out 0
   have hns24_0:=NB222_223.out
   have hms24_0:=NB223_222.out
   refine skip_ (w1:=?_) (by rfl) rfl ?_ ?_
   rotate_left
   ·go_simp
    rfl
   refine hK.out _ _ ?_
   clear hK K
   refine done_ (by kernel_rfl) ?_
   try go_wp2
   have n0_:Aside0 ((w23.setCell ⟨gb223,0,none⟩ (.int .i64 (Go.bits .or .i64 x224000_1 (ji20)))).heap[gb222]? = some (.cells #[.int .i64 x223000_1,.int .i64 x223001_1] 96 (0,0))):=⟨by (with_reducible repeat (first | refine blk_drewN ?_ _ | refine blk_drew ?_ | refine blk_alloc ?_ _));refine blk_far ?_ NB222_223.out _;(with_reducible repeat (first | refine blk_drewN ?_ _ | refine blk_drew ?_ | refine blk_alloc ?_ _));exact BK222.out⟩
   have n1_:Aside0 ((w23.setCell ⟨gb223,0,none⟩ (.int .i64 (Go.bits .or .i64 x224000_1 (ji20)))).heap[gb223]? = some (.cells #[.int .i64 (Go.bits .or .i64 x224000_1 (ji20)),.int .i64 x224001_1] 96 (0,0))):=⟨by (with_reducible repeat (first | refine blk_drewN ?_ _ | refine blk_drew ?_ | refine blk_alloc ?_ _));refine blk_put (cs:=#[.int .i64 x224000_1,.int .i64 x224001_1]) ?_ 0 _ rfl;(with_reducible repeat (first | refine blk_drewN ?_ _ | refine blk_drew ?_ | refine blk_alloc ?_ _));exact BK223.out⟩
   have n2_:Aside0 (Below w.heap.size w (w23.setCell ⟨gb223,0,none⟩ (.int .i64 (Go.bits .or .i64 x224000_1 (ji20))))):=⟨by repeat (first | (with_reducible first | exact HB.out | apply below_alloc | apply pw_below_drewN | apply below_drew1 | refine below_set ?_ GE222.out | refine below_set ?_ GE223.out) | exact HB.out)⟩
   (try clear BK222)
   (try clear BK223)
   (try clear HB)
   generalize (w23.setCell ⟨gb223,0,none⟩ (.int .i64 (Go.bits .or .i64 x224000_1 (ji20)))) = w25 at n0_ n1_ n2_ ⊢
   have BK222:=n0_
   have BK223:=n1_
   have HB:=n2_
   clear n0_ n1_ n2_
   have n0_:=Aside0.mk (blk_drew BK222.out)
   have n1_:=Aside0.mk (blk_drew BK223.out)
   have n2_:=Aside0.mk (below_drew1 HB.out)
   clear BK222
   clear BK223
   clear HB
   have BK222:=n0_
   have BK223:=n1_
   have HB:=n2_
   clear n0_ n1_ n2_
   refine start_ (n:=7) (S:=fun w'=>w'.cell? ⟨gb223,0,none⟩ = some (.int .i64 (Go.bits .or .i64 x224000_1 (ji20))) ∧ w'.cell? ⟨gb223,1,none⟩ = some (.int .i64 x224001_1)) (ds:=[6]) #[false,false,false,false,false,false,false] (by kernel_rfl) rfl rfl ⟨(blk_cell BK223.out 0).trans rfl,(blk_cell BK223.out 1).trans rfl⟩ (fun hHeld=>?_)
   generalize w25.drew = w26 at BK222 BK223 HB hHeld ⊢
   refine pure_ (i:=0) (N:=some 31) (v:=?_) (a':=?_) #[true,false,false,false,false,false,false] rfl rfl (by kernel_rfl) (fun _ _ _ h=>h) (Or.inl ⟨by rfl,?_⟩) ?_ ?_
   rotate_left
   ·intro w'
    go_simp
    with_reducible rfl
   rotate_left
   ·simp only [Act.put,List.setIfInBounds_toArray,List.set_cons_zero,List.set_cons_succ,i64_w,i32_w]
    rfl
   refine pure_ (i:=2) (N:=some 33) (v:=?_) (a':=?_) #[true,false,true,false,false,false,false] rfl rfl (by kernel_rfl) (fun _ _ _ h=>h) (Or.inl ⟨by rfl,?_⟩) ?_ ?_
   rotate_left
   ·intro w'
    go_simp
    with_reducible rfl
   rotate_left
   ·simp only [Act.put,List.setIfInBounds_toArray,List.set_cons_zero,List.set_cons_succ,i64_w,i32_w]
    rfl
   refine pure_ (i:=3) (N:=some 34) (v:=?_) (a':=?_) #[true,false,true,true,false,false,false] rfl rfl (by kernel_rfl) (fun _ _ _ h=>h) (Or.inl ⟨by rfl,?_⟩) ?_ ?_
   rotate_left
   ·intro w'
    go_simp
    with_reducible rfl
   rotate_left
   ·simp only [Act.put,List.setIfInBounds_toArray,List.set_cons_zero,List.set_cons_succ,i64_w,i32_w]
    rfl
   refine take_ (i:=1) (N:=some 32) (v:=?_) (a':=?_) #[true,true,true,true,false,false,false] rfl rfl (by kernel_rfl) (fun _ _ _ h=>h) (Or.inl ⟨by rfl,?_⟩) hHeld ?_ ?_
   rotate_left
   ·rintro w' ⟨s0,s1⟩
    go_simp
    with_reducible rfl
   rotate_left
   ·simp only [Act.put,List.setIfInBounds_toArray,List.set_cons_zero,List.set_cons_succ,i64_w,i32_w]
    rfl
   refine pure_ (i:=4) (N:=some 35) (v:=?_) (a':=?_) #[true,true,true,true,true,false,false] rfl rfl (by kernel_rfl) (fun _ _ _ h=>h) (Or.inl ⟨by rfl,?_⟩) ?_ ?_
   rotate_left
   ·intro w'
    go_simp
    with_reducible rfl
   rotate_left
   ·simp only [Act.put,List.setIfInBounds_toArray,List.set_cons_zero,List.set_cons_succ,i64_w,i32_w]
    rfl
   refine pure_ (i:=5) (N:=some 36) (v:=?_) (a':=?_) #[true,true,true,true,true,true,false] rfl rfl (by kernel_rfl) (fun _ _ _ h=>h) (Or.inl ⟨by rfl,?_⟩) ?_ ?_
   rotate_left
   ·intro w'
    go_simp
    with_reducible rfl
   rotate_left
   ·simp only [Act.put,List.setIfInBounds_toArray,List.set_cons_zero,List.set_cons_succ,i64_w,i32_w]
    rfl
   refine last_ (i:=6) (N:=none) #[true,true,true,true,true,true,true] rfl rfl (by kernel_rfl) (by decide) (fun K hK=>?_)
   have hs27:w26.cell? ⟨gb223,1,none⟩ = some (.int .i64 x224001_1):=(blk_cell BK223.out 1).trans rfl
   have hfs27:=blk_frozen BK223.out 1
   have hns27_0:=NB222_223.out
   have hms27_0:=NB223_222.out
   refine skip_ (w1:=?_) (by rfl) rfl ?_ ?_
   rotate_left
   ·go_simp
    rfl
   refine hK.out _ _ ?_
   clear hK K
   refine done_ (by kernel_rfl) ?_
   have hnb28:=NB222_223.out
   have hnc28:=NB223_222.out
   have hcz29_0:w26.cell? ⟨gb222,0,none⟩ = some (.int .i64 x223000_1):=(blk_cell BK222.out 0).trans rfl
   have hcz29_1:w26.cell? ⟨gb222,1,none⟩ = some (.int .i64 x223001_1):=(blk_cell BK222.out 1).trans rfl
   have hfz29_0:=blk_frozen BK222.out 0
   have hfz29_1:=blk_frozen BK222.out 1
   try go_wp2
   refine bodyPost_ret (results_ct rfl _ _ gb222 96 #[.int .i64 0,.int .i64 0] (0,0) _ rfl (by (with_reducible repeat (first | refine blk_drewN ?_ _ | refine blk_drew ?_ | refine blk_alloc ?_ _));refine blk_put (cs:=#[.int .i64 0,.int .i64 x223001_1]) ?_ 1 _ rfl;(with_reducible repeat (first | refine blk_drewN ?_ _ | refine blk_drew ?_ | refine blk_alloc ?_ _));refine blk_put (cs:=#[.int .i64 x223000_1,.int .i64 x223001_1]) ?_ 0 _ rfl;(with_reducible repeat (first | refine blk_drewN ?_ _ | refine blk_drew ?_ | refine blk_alloc ?_ _));refine blk_far ?_ NB222_223.out _;(with_reducible repeat (first | refine blk_drewN ?_ _ | refine blk_drew ?_ | refine blk_alloc ?_ _));exact BK222.out) Try.underlying96 rfl (by kernel_rfl)) rfl ?_
   exact ⟨by first | rfl | (simp [errW_none,errW_some] <;> rfl) | (simp only [← hji20];first | rfl | (simp [errW_none,errW_some] <;> rfl)) | (simp [*,errW_none,errW_some] <;> rfl) | (simp;cases a0.toList <;> rfl),by repeat (first | (with_reducible first | exact HB.out | apply below_alloc | apply pw_below_drewN | apply below_drew1 | refine below_set ?_ GE222.out | refine below_set ?_ GE223.out) | exact HB.out)⟩
def card_cube_has.f (a0_0:Int) (a0_1:Int) (a1:Int):Option (Bool):=some ((Go.bits .and .i64 a1 a0_0) == a0_1)
theorem card_cube_has.calls (a0_0:Int) (a0_1:Int) (a1:Int) (r:Bool) (w:World) (h:card_cube_has.f a0_0 a0_1 a1 = some r) :
  Calls Try.prog 70 #[.agg #[.int .i64 a0_0,.int .i64 a0_1],.int .i64 a1] w fun e w'=>e = .returned (.bool r) ∧ Below w.heap.size w w':=by
 have hu96:=Try.underlying96
 have HB:=Aside0.mk (Below.refl w.heap.size w)
 have H:(some ((Go.bits .and .i64 a1 a0_0) == a0_1)) = some r:=h
 clear h
 obtain rfl:=Option.some.inj H
 go_enter Try.func70,Try.ntmps70
 go_wp2_with (first | ((with_reducible refine gate_dst (N:=2) rfl ?_);refine box_event ?hg (N:=2) ?hd (cs:=#[.int .i64 a0_0,.int .i64 a0_1]) (t:=96) ?hr ?_;(case hd=>rfl);(case hg=>rfl);(case hr=>first | (go_simp;done) | (go_simp;rfl));intro gb139 hg w3 hbox hb;have n0_:=Aside0.mk (below_step (by repeat (first | (with_reducible first | exact HB.out | apply below_alloc | apply pw_below_drewN | apply below_drew1) | exact HB.out)) hb);have n1_:=Aside0.mk (hbox);have n2_:=Aside0.mk ((by rw [hg];exact (below_size (by repeat (first | (with_reducible first | exact HB.out | apply below_alloc | apply pw_below_drewN | apply below_drew1) | exact HB.out))):w.heap.size ≤ gb139));have n3_:=Aside0.mk ((by rw [hg];exact (below_size (by repeat (first | (with_reducible first | exact HB.out | apply below_alloc | apply pw_below_drewN | apply below_drew1) | exact HB.out))):w.heap.size ≤ gb139));clear HB;have HB:=n0_;have BK139:=n1_;have GW139:=n2_;have GE139:=n3_;clear n0_ n1_ n2_ n3_;clear hb hbox hg;have hcz4_0:w3.cell? ⟨gb139,0,none⟩ = some (.int .i64 a0_0):=(blk_cell BK139.out 0).trans rfl;have hcz4_1:w3.cell? ⟨gb139,1,none⟩ = some (.int .i64 a0_1):=(blk_cell BK139.out 1).trans rfl;have hfz4_0:=blk_frozen BK139.out 0;have hfz4_1:=blk_frozen BK139.out 1))
 go_ret
 exact ⟨by first | rfl | (simp [errW_none,errW_some] <;> rfl) | (simp [*,errW_none,errW_some] <;> rfl),by repeat (first | (with_reducible first | exact HB.out | apply below_alloc | apply pw_below_drewN | apply below_drew1 | refine below_set ?_ GE139.out) | exact HB.out)⟩
def card_Points.l0:Nat → List Int → Int → Int → Int → Int → Option (List Int × Int)
 | 0,_,_,_,_,_=>none
 | k + 1,x6,x17,x18,x228000,x228001=>if x18 < x17 then ((card_cube_has.f x228000 x228001 x18).bind fun t228=>(if t228 = true then (if x6.length < 17592186044416 then (card_Points.l0 k (x6 ++ [x18]) x17 (wrap64 (x18 + 1)) x228000 x228001) else (none)) else (card_Points.l0 k x6 x17 (wrap64 (x18 + 1)) x228000 x228001))) else (some (x6,0))
def card_Points.f (k:Nat) (a0:ByteArray):Option (List Int × Int):=(card_newCube.f k a0).bind fun bt224=>(if bt224.2.2 = true then (card_Points.l0 k ([]:List Int) (shl .i64 1 (a0.size:Int)) 0 bt224.1 bt224.2.1) else (some (([]:List Int),2)))
theorem card_Points.mono_l:∀ k,(∀ y0 y1 y2 y3 y4,LeO (card_Points.l0 k y0 y1 y2 y3 y4) (card_Points.l0 (k + 1) y0 y1 y2 y3 y4))
 | 0=>fun _ _ _ _ _ r h=>by simp [card_Points.l0] at h
 | k + 1=>by
  have ih0:=card_Points.mono_l k
  intro y0 y1 y2 y3 y4
  unfold card_Points.l0
  repeat' first
  | (with_reducible exact ih0 _ _ _ _ _)
  | (with_reducible exact card_newCube.mono _ _)
  | (with_reducible exact LeO.refl _)
  | (with_reducible exact LeO.none _)
  | (with_reducible refine LeO.ite ?_ ?_)
  | (with_reducible refine LeO.bind ?_ (fun _=>?_))
  | exact ih0 _ _ _ _ _
  | exact card_newCube.mono _ _
  | exact LeO.none _
  | refine LeO.ite ?_ ?_
  | refine LeO.bind ?_ (fun _=>?_)
theorem card_Points.mono:∀ a0 k,LeO (card_Points.f k a0) (card_Points.f (k + 1) a0):=by
 intro a0 k
 have ih0:=card_Points.mono_l k
 unfold card_Points.f
 repeat' first
   | (with_reducible exact ih0 _ _ _ _ _)
   | (with_reducible exact card_newCube.mono _ _)
   | (with_reducible exact LeO.refl _)
   | (with_reducible exact LeO.none _)
   | (with_reducible refine LeO.ite ?_ ?_)
   | (with_reducible refine LeO.bind ?_ (fun _=>?_))
   | exact ih0 _ _ _ _ _
   | exact card_newCube.mono _ _
   | exact LeO.none _
   | refine LeO.ite ?_ ?_
   | refine LeO.bind ?_ (fun _=>?_)
theorem card_Points.calls (k:Nat) (a0:ByteArray) (r1:List Int) (r2:Int) (w:World) (h:card_Points.f k a0 = some (r1,r2)) :
  Calls Try.prog 34 #[.string a0] w fun e w'=>∃ v0_:Value,e = .returned (.tuple #[v0_,.int .i64 r2]) ∧ Kd.R (Kd.int .i64) 3 w' w.heap.size (fun _=>True) v0_ r1 ∧ Below w.heap.size w w':=by
 have hu96:=Try.underlying96
 have HB:=Aside0.mk (Below.refl w.heap.size w)
 have H:((card_newCube.f k a0).bind fun bt224=>(if bt224.2.2 = true then (card_Points.l0 k ([]:List Int) (shl .i64 1 (a0.size:Int)) 0 bt224.1 bt224.2.1) else (some (([]:List Int),2)))) = some (r1,r2):=h
 clear h
 replace H:=Option.bind_eq_some_iff.mp H
 obtain ⟨⟨t224,t225,t226⟩,A20,H⟩:=H
 replace H:(if t226 = true then (card_Points.l0 k ([]:List Int) (shl .i64 1 (a0.size:Int)) 0 t224 t225) else (some (([]:List Int),2))) = some (r1,r2):=H
 have A2:=Aside0.mk A20
 clear A20
 by_cases c3:t226 = true
 case neg =>
  replace c3:=Bool.eq_false_iff.mpr c3
  subst c3
  have H1:(some (([]:List Int),2)) = some (r1,r2):=by rw [if_neg (show ¬ (false = true) by decide)] at H;exact H
  clear H
  have H:=H1
  clear H1
  simp only [Option.some.injEq,Prod.mk.injEq] at H
  obtain ⟨rfl,rfl⟩:=H
  go_enter Try.func34,Try.ntmps34
  go_wp2_with (first | ((with_reducible refine gate_callee (f:=69) rfl ?_);refine goesL_ (some 10) rfl rfl Try.func69 (by kernel_rfl) rfl #[.string a0] rfl (by (try simp only [List.map_toArray,List.map_cons,List.map_nil]);first | done | rfl | (simp only [List.length_drop,List.length_take];rfl)) ?_;(with_reducible refine (card_newCube.calls k a0 t224 t225 false _ A2.out).mono ?_);rintro e w17 ⟨rfl,hb⟩;refine ⟨_,rfl,?_⟩;have n0_:=Aside0.mk (below_step (by repeat (first | (with_reducible first | exact HB.out | apply below_alloc | apply pw_below_drewN | apply below_drew1) | exact HB.out)) hb);clear HB;have HB:=n0_;clear n0_;(try clear hb)) | ((with_reducible refine gate_dst (N:=4) rfl ?_);refine box_event ?hg (N:=4) ?hd (cs:=#[.int .i64 0,.int .i64 0]) (t:=96) ?hr ?_;(case hd=>rfl);(case hg=>rfl);(case hr=>first | (go_simp;done) | (go_simp;rfl));intro gb227 hg w18 hbox hb;have n0_:=Aside0.mk (below_step (by repeat (first | (with_reducible first | exact HB.out | apply below_alloc | apply pw_below_drewN | apply below_drew1) | exact HB.out)) hb);have n1_:=Aside0.mk (hbox);have n2_:=Aside0.mk ((by rw [hg];exact (below_size (by repeat (first | (with_reducible first | exact HB.out | apply below_alloc | apply pw_below_drewN | apply below_drew1) | exact HB.out))):w.heap.size ≤ gb227));have n3_:=Aside0.mk ((by rw [hg];exact (below_size (by repeat (first | (with_reducible first | exact HB.out | apply below_alloc | apply pw_below_drewN | apply below_drew1) | exact HB.out))):w.heap.size ≤ gb227));clear HB;have HB:=n0_;have BK227:=n1_;have GW227:=n2_;have GE227:=n3_;clear n0_ n1_ n2_ n3_;clear hb hbox hg;have hcz19_0:w18.cell? ⟨gb227,0,none⟩ = some (.int .i64 0):=(blk_cell BK227.out 0).trans rfl;have hcz19_1:w18.cell? ⟨gb227,1,none⟩ = some (.int .i64 0):=(blk_cell BK227.out 1).trans rfl;have hfz19_0:=blk_frozen BK227.out 0;have hfz19_1:=blk_frozen BK227.out 1))
  go_ret2
  exact ⟨_,by first | rfl | (simp [errW_none,errW_some] <;> rfl) | (simp [*,errW_none,errW_some] <;> rfl),by first | exact Kd.R_nil _ _ _ _ _ | exact Kd.N_nil _ _ _ _ _ | exact Kd.V_nil _ _ _ _ _ | exact Kd.Q_nil _ _ _ _ _ | exact Kd.S_nil _ _ _ _ _,by repeat (first | (with_reducible first | exact HB.out | apply below_alloc | apply pw_below_drewN | apply below_drew1 | refine below_set ?_ GE227.out) | exact HB.out)⟩
 subst c3
 have H1:(card_Points.l0 k ([]:List Int) (shl .i64 1 (a0.size:Int)) 0 t224 t225) = some (r1,r2):=by rw [if_pos rfl] at H;exact H
 clear H
 have H:=H1
 clear H1
 obtain ⟨ji4,hji4⟩:∃ j_:Int,(shl .i64 1 (a0.size:Int)) = j_:=⟨_,rfl⟩
 replace H:(card_Points.l0 k ([]:List Int) ji4 0 t224 t225) = some (r1,r2):=by first | (rw [hji4] at H;exact H) | (simp only [hji4] at H ⊢;exact H)
 (try rw [hji4] at A2)
 have hji4_:(IntKind.i64.wrap (1 * 2 ^ min (a0.size:Int).toNat 64)) = ji4:=hji4
 have hji4z:(a0.size:Int) ≤ 64 → (IntKind.i64.wrap (1 * 2 ^ (a0.size:Int).toNat)) = ji4:=shl_small hji4
 have hji4u:(IntKind.i64.wrap (2 ^ min (a0.size:Int).toNat 64)) = ji4:=by have h_:=hji4_;rw [Int.one_mul] at h_;exact h_
 have hji4v:(a0.size:Int) ≤ 64 → (IntKind.i64.wrap (2 ^ (a0.size:Int).toNat)) = ji4:=fun hle_=>by have h_:=hji4z hle_;rw [Int.one_mul] at h_;exact h_
 have hji4y:(wrap64 (1 * 2 ^ min (a0.size:Int).toNat 64)) = ji4:=(i64_w _).symm.trans hji4_
 have hji4n:(wrap64 (2 ^ min a0.size 64)) = ji4:=by have h_:=hji4y;rw [Int.one_mul,Int.toNat_natCast] at h_;exact h_
 have hji4x:(a0.size:Int) ≤ 64 → (wrap64 (1 * 2 ^ (a0.size:Int).toNat)) = ji4:=fun h_=>(i64_w _).symm.trans (hji4z h_)
 have H':=Aside0.mk H
 clear H
 go_enter Try.func34,Try.ntmps34
 go_wp2_with (first | ((with_reducible refine gate_callee (f:=69) rfl ?_);refine goesL_ (some 10) rfl rfl Try.func69 (by kernel_rfl) rfl #[.string a0] rfl (by (try simp only [List.map_toArray,List.map_cons,List.map_nil]);first | done | rfl | (simp only [List.length_drop,List.length_take];rfl)) ?_;(with_reducible refine (card_newCube.calls k a0 t224 t225 true _ A2.out).mono ?_);rintro e w5 ⟨rfl,hb⟩;refine ⟨_,rfl,?_⟩;have n0_:=Aside0.mk (below_step (by repeat (first | (with_reducible first | exact HB.out | apply below_alloc | apply pw_below_drewN | apply below_drew1) | exact HB.out)) hb);clear HB;have HB:=n0_;clear n0_;(try clear hb)) | ((with_reducible refine gate_dst (N:=4) rfl ?_);refine box_event ?hg (N:=4) ?hd (cs:=#[.int .i64 0,.int .i64 0]) (t:=96) ?hr ?_;(case hd=>rfl);(case hg=>rfl);(case hr=>first | (go_simp;done) | (go_simp;rfl));intro gb227 hg w6 hbox hb;have n0_:=Aside0.mk (below_step (by repeat (first | (with_reducible first | exact HB.out | apply below_alloc | apply pw_below_drewN | apply below_drew1) | exact HB.out)) hb);have n1_:=Aside0.mk (hbox);have n2_:=Aside0.mk ((by rw [hg];exact (below_size (by repeat (first | (with_reducible first | exact HB.out | apply below_alloc | apply pw_below_drewN | apply below_drew1) | exact HB.out))):w.heap.size ≤ gb227));have n3_:=Aside0.mk ((by rw [hg];exact (below_size (by repeat (first | (with_reducible first | exact HB.out | apply below_alloc | apply pw_below_drewN | apply below_drew1) | exact HB.out))):w.heap.size ≤ gb227));clear HB;have HB:=n0_;have BK227:=n1_;have GW227:=n2_;have GE227:=n3_;clear n0_ n1_ n2_ n3_;clear hb hbox hg;have hcz7_0:w6.cell? ⟨gb227,0,none⟩ = some (.int .i64 0):=(blk_cell BK227.out 0).trans rfl;have hcz7_1:w6.cell? ⟨gb227,1,none⟩ = some (.int .i64 0):=(blk_cell BK227.out 1).trans rfl;have hfz7_0:=blk_frozen BK227.out 0;have hfz7_1:=blk_frozen BK227.out 1))
 (try simp only [hji4n])
 go_loopg [6,18] k (fun kq v6 v18 w'=>∃ (x6_1:List Int) (x18_1:Int),v18 = .int .i64 x18_1 ∧ Aside0 (card_Points.l0 kq x6_1 ji4 x18_1 t224 t225 = some (r1,r2)) ∧ Aside0 (kq ≤ k) ∧ Aside0 (Kd.R (Kd.int .i64) 3 w' w.heap.size (fun _=>True) v6 x6_1) ∧ Aside0 (w'.heap[gb227]? = some (.cells #[.int .i64 t224,.int .i64 t225] 96 (0,0))) ∧ Aside0 (Below w.heap.size w w'))
 case atStart=>exact ⟨(([]:List Int)),(0),(by first | rfl | (simp;done) | (simp [*];done)),H',⟨Nat.le_refl _⟩,⟨by first | exact Kd.R_nil _ _ _ _ _ | exact Kd.N_nil _ _ _ _ _ | exact Kd.V_nil _ _ _ _ _ | exact Kd.Q_nil _ _ _ _ _ | exact Kd.S_nil _ _ _ _ _⟩,⟨by (with_reducible repeat (first | refine blk_drewN ?_ _ | refine blk_drew ?_ | refine blk_alloc ?_ _));refine blk_put (cs:=#[.int .i64 t224,.int .i64 0]) ?_ 1 _ rfl;(with_reducible repeat (first | refine blk_drewN ?_ _ | refine blk_drew ?_ | refine blk_alloc ?_ _));refine blk_put (cs:=#[.int .i64 0,.int .i64 0]) ?_ 0 _ rfl;(with_reducible repeat (first | refine blk_drewN ?_ _ | refine blk_drew ?_ | refine blk_alloc ?_ _));exact BK227.out⟩,⟨by repeat (first | (with_reducible first | exact HB.out | apply below_alloc | apply pw_below_drewN | apply below_drew1 | refine below_set ?_ GE227.out) | exact HB.out)⟩⟩
 case round =>
  clear H'
  try clear p2
  try clear c3
  try clear c6
  try clear p6
  try clear hcz7_0
  try clear hcz7_1
  try clear hfz7_0
  try clear hfz7_1
  obtain ⟨x6_1,x18_1,rfl,HA,HK1,HO_6,BK227,HB⟩:=hrel
  cases gk with
  | zero=>exact absurd HA.out (by simp [card_Points.l0])
  | succ k1 =>
   have H:=HA.out
   clear HA
   simp only [card_Points.l0] at H
   by_cases c8:x18_1 < ji4
   case neg =>
    rw [if_neg c8] at H
    have c8b0:decide (x18_1 < ji4) = false:=decide_eq_false c8
    clear c8
    simp only [Option.some.injEq,Prod.mk.injEq] at H
    obtain ⟨rfl,rfl⟩:=H
    go_wp2
    go_ret2
    exact ⟨_,by first | rfl | (simp [errW_none,errW_some] <;> rfl) | (simp only [← hji4];first | rfl | (simp [errW_none,errW_some] <;> rfl)) | (simp [*,errW_none,errW_some] <;> rfl),by (with_reducible repeat (first | apply Kd.R_alloc | apply Kd.R_drewN | apply Kd.R_drew));exact HO_6.out,by repeat (first | (with_reducible first | exact HB.out | apply below_alloc | apply pw_below_drewN | apply below_drew1 | refine below_set ?_ GE227.out) | exact HB.out)⟩
   rw [if_pos c8] at H
   have c8b0:decide (x18_1 < ji4) = true:=decide_eq_true c8
   clear c8
   replace H:=Option.bind_eq_some_iff.mp H
   obtain ⟨t228,A90,H⟩:=H
   replace H:(if t228 = true then (if x6_1.length < 17592186044416 then (card_Points.l0 k1 (x6_1 ++ [x18_1]) ji4 (wrap64 (x18_1 + 1)) t224 t225) else (none)) else (card_Points.l0 k1 x6_1 ji4 (wrap64 (x18_1 + 1)) t224 t225)) = some (r1,r2):=H
   have A9:=Aside0.mk A90
   clear A90
   by_cases c10:t228 = true
   case neg =>
    replace c10:=Bool.eq_false_iff.mpr c10
    subst c10
    have H1:(card_Points.l0 k1 x6_1 ji4 (wrap64 (x18_1 + 1)) t224 t225) = some (r1,r2):=by rw [if_neg (show ¬ (false = true) by decide)] at H;exact H
    clear H
    have H:=H1
    clear H1
    have H':=Aside0.mk H
    clear H
    have hcz15_0:wr.cell? ⟨gb227,0,none⟩ = some (.int .i64 t224):=(blk_cell BK227.out 0).trans rfl
    have hcz15_1:wr.cell? ⟨gb227,1,none⟩ = some (.int .i64 t225):=(blk_cell BK227.out 1).trans rfl
    have hfz15_0:=blk_frozen BK227.out 0
    have hfz15_1:=blk_frozen BK227.out 1
    go_wp2_with (first | ((with_reducible refine gate_callee (f:=70) rfl ?_);refine goesL_ (some 23) rfl rfl Try.func70 (by kernel_rfl) rfl #[.agg #[.int .i64 t224,.int .i64 t225],.int .i64 x18_1] rfl (by (try simp only [List.map_toArray,List.map_cons,List.map_nil]);first | done | rfl | (simp only [List.length_drop,List.length_take];rfl)) ?_;(with_reducible refine (card_cube_has.calls t224 t225 x18_1 false _ A9.out).mono ?_);rintro e w16 ⟨rfl,hb⟩;refine ⟨_,rfl,?_⟩;have n0_:=Aside0.mk (Kd.R_below (by (with_reducible repeat (first | apply Kd.R_alloc | apply Kd.R_drewN | apply Kd.R_drew));exact HO_6.out) hb);have n1_:=Aside0.mk (blk_below (g:=gb227) (o:=.cells #[.int .i64 t224,.int .i64 t225] 96 (0,0)) (by (with_reducible repeat (first | refine blk_drewN ?_ _ | refine blk_drew ?_ | refine blk_alloc ?_ _));exact BK227.out) hb);have n2_:=Aside0.mk (below_step (by repeat (first | (with_reducible first | exact HB.out | apply below_alloc | apply pw_below_drewN | apply below_drew1 | refine below_set ?_ GE227.out) | exact HB.out)) hb);clear HO_6;clear BK227;clear HB;have HO_6:=n0_;have BK227:=n1_;have HB:=n2_;clear n0_ n1_ n2_;(try clear hb)))
    go_roundg k1
    case measure=>have:=HK1.out;omega
    case rel=>exact ⟨(x6_1),(wrap64 (x18_1 + 1)),(by first | rfl | (simp;done) | (simp [*];done)),H',⟨by have:=HK1.out;omega⟩,⟨by (with_reducible repeat (first | apply Kd.R_alloc | apply Kd.R_drewN | apply Kd.R_drew));exact HO_6.out⟩,⟨by (with_reducible repeat (first | refine blk_drewN ?_ _ | refine blk_drew ?_ | refine blk_alloc ?_ _));exact BK227.out⟩,⟨by repeat (first | (with_reducible first | exact HB.out | apply below_alloc | apply pw_below_drewN | apply below_drew1 | refine below_set ?_ GE227.out) | exact HB.out)⟩⟩
   subst c10
   have H1:(if x6_1.length < 17592186044416 then (card_Points.l0 k1 (x6_1 ++ [x18_1]) ji4 (wrap64 (x18_1 + 1)) t224 t225) else (none)) = some (r1,r2):=by rw [if_pos rfl] at H;exact H
   clear H
   have H:=H1
   clear H1
   by_cases c11:x6_1.length < 17592186044416
   case neg =>
    rw [if_neg c11] at H
    exact absurd H (by simp)
   rw [if_pos c11] at H
   have LMc11:=Aside0.mk c11
   clear c11
   obtain ⟨y229,hy229⟩:∃ y_:List Int,y_ = (x6_1 ++ [x18_1]):=⟨_,rfl⟩
   replace H:(card_Points.l0 k1 y229 ji4 (wrap64 (x18_1 + 1)) t224 t225) = some (r1,r2):=by first | (rw [hy229];with_reducible exact H) | (have H2_:=(Option.bind_some _ _).symm.trans H;rw [hy229];with_reducible exact H2_) | (have H2_:=(Option.bind_some _ _).symm.trans H;with_reducible exact H2_) | with_reducible exact H | (rw [hy229];exact H) | exact H
   have Ny229:=Aside0.mk hy229
   clear hy229
   have H':=Aside0.mk H
   clear H
   have hcz12_0:wr.cell? ⟨gb227,0,none⟩ = some (.int .i64 t224):=(blk_cell BK227.out 0).trans rfl
   have hcz12_1:wr.cell? ⟨gb227,1,none⟩ = some (.int .i64 t225):=(blk_cell BK227.out 1).trans rfl
   have hfz12_0:=blk_frozen BK227.out 0
   have hfz12_1:=blk_frozen BK227.out 1
   go_wp2_with (first | ((with_reducible refine gate_callee (f:=70) rfl ?_);refine goesL_ (some 23) rfl rfl Try.func70 (by kernel_rfl) rfl #[.agg #[.int .i64 t224,.int .i64 t225],.int .i64 x18_1] rfl (by (try simp only [List.map_toArray,List.map_cons,List.map_nil]);first | done | rfl | (simp only [List.length_drop,List.length_take];rfl)) ?_;(with_reducible refine (card_cube_has.calls t224 t225 x18_1 true _ A9.out).mono ?_);rintro e w13 ⟨rfl,hb⟩;refine ⟨_,rfl,?_⟩;have n0_:=Aside0.mk (Kd.R_below (by (with_reducible repeat (first | apply Kd.R_alloc | apply Kd.R_drewN | apply Kd.R_drew));exact HO_6.out) hb);have n1_:=Aside0.mk (blk_below (g:=gb227) (o:=.cells #[.int .i64 t224,.int .i64 t225] 96 (0,0)) (by (with_reducible repeat (first | refine blk_drewN ?_ _ | refine blk_drew ?_ | refine blk_alloc ?_ _));exact BK227.out) hb);have n2_:=Aside0.mk (below_step (by repeat (first | (with_reducible first | exact HB.out | apply below_alloc | apply pw_below_drewN | apply below_drew1 | refine below_set ?_ GE227.out) | exact HB.out)) hb);clear HO_6;clear BK227;clear HB;have HO_6:=n0_;have BK227:=n1_;have HB:=n2_;clear n0_ n1_ n2_;(try clear hb)) | ((with_reducible refine gate_builtin (b:=.append) (xs:=#[.tmp 24,.tmp 26]) rfl ?_);at_builtin;refine Kd.R_append (Kd.int .i64) (w0:=w) w.heap.size rfl (.tmp 24) (.tmp 26) 22 3 (.int .i64 0) 8 rfl Try.underlying22 info3 rfl (by decide) (by omega) u6 x6_1 x18_1 [.int .i64 x18_1] (fun _=>True) (fun _=>False) rfl rfl ?aP (fun _ hk=>hk.elim) ?aF ?aO ?aB ?aS ?aL ?_;(case aP=>exact rfl);(case aB=>exact (by repeat (first | (with_reducible first | exact HB.out | apply below_alloc | apply pw_below_drewN | apply below_drew1 | refine below_set ?_ GE227.out) | exact HB.out)));(case aF=>exact (fun _ _=>trivial));(case aO=>exact (by (with_reducible repeat (first | apply Kd.R_alloc | apply Kd.R_drewN | apply Kd.R_drew));exact HO_6.out));(case aS=>exact (below_size (by repeat (first | (with_reducible first | exact HB.out | apply below_alloc | apply pw_below_drewN | apply below_drew1 | refine below_set ?_ GE227.out) | exact HB.out))));(case aL=>have:=LMc11.out;omega);intro v230 w14 ho hb hg hat;rw [← Ny229.out] at ho;have n0_:=Aside0.mk (blk_grown (g:=gb227) (o:=.cells #[.int .i64 t224,.int .i64 t225] 96 (0,0)) (by (with_reducible repeat (first | refine blk_drewN ?_ _ | refine blk_drew ?_ | refine blk_alloc ?_ _));exact BK227.out) hg (Kd.R_ne HO_6.out BK227.out (by decide)));have n1_:=Aside0.mk (hb);have n2_:=Aside0.mk (ho);clear BK227;clear HB;clear HO_6;have BK227:=n0_;have HB:=n1_;have HO231:=n2_;clear n0_ n1_ n2_;clear ho hb hg hat))
   go_roundg k1
   case measure=>have:=HK1.out;omega
   case rel=>exact ⟨(y229),(wrap64 (x18_1 + 1)),(by first | rfl | (simp;done) | (simp [*];done)),H',⟨by have:=HK1.out;omega⟩,⟨by (with_reducible repeat (first | apply Kd.R_alloc | apply Kd.R_drewN | apply Kd.R_drew));exact HO231.out⟩,⟨by (with_reducible repeat (first | refine blk_drewN ?_ _ | refine blk_drew ?_ | refine blk_alloc ?_ _));exact BK227.out⟩,⟨by repeat (first | (with_reducible first | exact HB.out | apply below_alloc | apply pw_below_drewN | apply below_drew1 | refine below_set ?_ GE227.out) | exact HB.out)⟩⟩
def numnahlaw01_ints.l0:Nat → List Int → List Int → Int → Option (Bool)
 | 0,_,_,_=>none
 | k + 1,x0,x1,x5=>if x5 < (x0.length:Int) then (if 0 ≤ x5 then (if x5 < (x1.length:Int) then (if (rd x0 x5) = (rd x1 x5) then (numnahlaw01_ints.l0 k x0 x1 (wrap64 (x5 + 1))) else (some false)) else (none)) else (none)) else (some true)
def numnahlaw01_ints.f (k:Nat) (l0:List Int) (l1:List Int):Option (Bool):=if (l0.length:Int) = (l1.length:Int) then (numnahlaw01_ints.l0 k l0 l1 0) else (some false)
theorem numnahlaw01_ints.mono_l:∀ k,(∀ y0 y1 y2,LeO (numnahlaw01_ints.l0 k y0 y1 y2) (numnahlaw01_ints.l0 (k + 1) y0 y1 y2))
 | 0=>fun _ _ _ r h=>by simp [numnahlaw01_ints.l0] at h
 | k + 1=>by
  have ih0:=numnahlaw01_ints.mono_l k
  intro y0 y1 y2
  unfold numnahlaw01_ints.l0
  repeat' first
  | (with_reducible exact ih0 _ _ _)
  | (with_reducible exact LeO.refl _)
  | (with_reducible exact LeO.none _)
  | (with_reducible refine LeO.ite ?_ ?_)
  | (with_reducible refine LeO.bind ?_ (fun _=>?_))
  | exact ih0 _ _ _
  | exact LeO.none _
  | refine LeO.ite ?_ ?_
  | refine LeO.bind ?_ (fun _=>?_)
theorem numnahlaw01_ints.mono:∀ a0 a1 k,LeO (numnahlaw01_ints.f k a0 a1) (numnahlaw01_ints.f (k + 1) a0 a1):=by
 intro a0 a1 k
 have ih0:=numnahlaw01_ints.mono_l k
 unfold numnahlaw01_ints.f
 repeat' first
   | (with_reducible exact ih0 _ _ _)
   | (with_reducible exact LeO.refl _)
   | (with_reducible exact LeO.none _)
   | (with_reducible refine LeO.ite ?_ ?_)
   | (with_reducible refine LeO.bind ?_ (fun _=>?_))
   | exact ih0 _ _ _
   | exact LeO.none _
   | refine LeO.ite ?_ ?_
   | refine LeO.bind ?_ (fun _=>?_)
theorem numnahlaw01_ints.calls (k:Nat) (A0:Option Addr) (c0:Nat) (l0:List Int) (A1:Option Addr) (c1:Nat) (l1:List Int) (r:Bool) (w:World) (hr0:Kd.C (Kd.int .i64) w A0 l0.length l0) (hc0:l0.length ≤ c0) (hr1:Kd.C (Kd.int .i64) w A1 l1.length l1) (hc1:l1.length ≤ c1) (h:numnahlaw01_ints.f k l0 l1 = some r) :
  Calls Try.prog 35 #[.slice A0 l0.length c0,.slice A1 l1.length c1] w fun e w'=>e = .returned (.bool r) ∧ Drawn0 w w':=by
 have HR0:=Aside0.mk hr0
 have HC0:=Aside0.mk hc0
 clear hr0 hc0
 have HR1:=Aside0.mk hr1
 have HC1:=Aside0.mk hc1
 clear hr1 hc1
 have H:(if (l0.length:Int) = (l1.length:Int) then (numnahlaw01_ints.l0 k l0 l1 0) else (some false)) = some r:=h
 clear h
 by_cases c3:(l0.length:Int) = (l1.length:Int)
 case neg =>
  rw [if_neg c3] at H
  have c3b0:((l0.length:Int) == (l1.length:Int)) = false:=beq_eq_false_iff_ne.mpr c3
  have c3b1:((l0.length:Int) != (l1.length:Int)) = true:=bne_iff_ne.mpr c3
  have c3b2:(l0.length == l1.length) = false:=by first | simpa using c3 | (simp at c3 ⊢;omega)
  obtain rfl:=Option.some.inj H
  go_enter Try.func35,Try.ntmps35
  go_wp2
  repeat (go_quiet (fail);try go_wp2)
  go_ret
  exact ⟨by first | rfl | (simp;done) | (simp [*];done),by repeat (first | exact Drawn0.refl _ | apply Drawn0.step)⟩
 rw [if_pos c3] at H
 have c3b0:((l0.length:Int) == (l1.length:Int)) = true:=beq_iff_eq.mpr c3
 have c3b1:((l0.length:Int) != (l1.length:Int)) = false:=bne_eq_false_iff_eq.mpr c3
 have c3b2:(l0.length == l1.length) = true:=by first | simpa using c3 | (simp at c3 ⊢;omega)
 clear c3
 have H':=Aside0.mk H
 clear H
 go_enter Try.func35,Try.ntmps35
 go_wp2
 repeat (go_quiet (fail);try go_wp2)
 go_loopg [5] k (fun kq v5 w'=>∃ (x5_1:Int),v5 = .int .i64 x5_1 ∧ Aside0 (numnahlaw01_ints.l0 kq l0 l1 x5_1 = some r) ∧ Aside0 (kq ≤ k) ∧ Drawn0 w w')
 case atStart=>exact ⟨(0),(by first | rfl | (simp;done) | (simp [*];done)),H',⟨Nat.le_refl _⟩,by repeat (first | exact Drawn0.refl _ | apply Drawn0.step)⟩
 case round =>
  clear H'
  try clear c1
  try clear p2
  try clear c3
  try clear c3b0
  try clear c3b1
  try clear c3b2
  obtain ⟨x5_1,rfl,HA,HK1,⟨m1,rfl⟩⟩:=hrel
  cases gk with
  | zero=>exact absurd HA.out (by simp [numnahlaw01_ints.l0])
  | succ k1 =>
   have H:=HA.out
   clear HA
   simp only [numnahlaw01_ints.l0] at H
   by_cases c4:x5_1 < (l0.length:Int)
   case neg =>
    rw [if_neg c4] at H
    have c4b0:decide (x5_1 < (l0.length:Int)) = false:=decide_eq_false c4
    clear c4
    obtain rfl:=Option.some.inj H
    go_wp2
    repeat (go_quiet (fail);try go_wp2)
    go_ret
    exact ⟨by first | rfl | (simp;done) | (simp [*];done),by repeat (first | exact Drawn0.refl _ | apply Drawn0.step)⟩
   rw [if_pos c4] at H
   have c4b0:decide (x5_1 < (l0.length:Int)) = true:=decide_eq_true c4
   clear c4
   by_cases c5:0 ≤ x5_1
   case neg =>
    rw [if_neg c5] at H
    exact absurd H (by simp)
   rw [if_pos c5] at H
   have c5b0:decide (0 ≤ x5_1) = true:=decide_eq_true c5
   clear c5
   by_cases c6:x5_1 < (l1.length:Int)
   case neg =>
    rw [if_neg c6] at H
    exact absurd H (by simp)
   rw [if_pos c6] at H
   have c6b0:decide (x5_1 < (l1.length:Int)) = true:=decide_eq_true c6
   clear c6
   by_cases c7:(rd l0 x5_1) = (rd l1 x5_1)
   case neg =>
    rw [if_neg c7] at H
    have c7b0:((rd l0 x5_1) == (rd l1 x5_1)) = false:=beq_eq_false_iff_ne.mpr c7
    have c7b1:((rd l0 x5_1) != (rd l1 x5_1)) = true:=bne_iff_ne.mpr c7
    obtain rfl:=Option.some.inj H
    have p232:0 ≤ (x5_1:Int):=of_decide_eq_true (by first | (with_reducible assumption) | assumption)
    have q232:x5_1 < (l0.length:Int):=of_decide_eq_true (by first | (with_reducible assumption) | assumption)
    obtain ⟨ad232,e232,hx232_0⟩:=Kd.at_int HR0.out x5_1 p232 q232
    cases e232
    replace p232:=eq_true p232
    replace q232:=eq_true q232
    have p233:0 ≤ (x5_1:Int):=of_decide_eq_true (by first | (with_reducible assumption) | assumption)
    have q233:x5_1 < (l1.length:Int):=of_decide_eq_true (by first | (with_reducible assumption) | assumption)
    obtain ⟨ad233,e233,hx233_0⟩:=Kd.at_int HR1.out x5_1 p233 q233
    cases e233
    replace p233:=eq_true p233
    replace q233:=eq_true q233
    go_wp2
    repeat (go_quiet (fail);try go_wp2)
    go_ret
    exact ⟨by first | rfl | (simp;done) | (simp [*];done),by repeat (first | exact Drawn0.refl _ | apply Drawn0.step)⟩
   rw [if_pos c7] at H
   have c7b0:((rd l0 x5_1) == (rd l1 x5_1)) = true:=beq_iff_eq.mpr c7
   have c7b1:((rd l0 x5_1) != (rd l1 x5_1)) = false:=bne_eq_false_iff_eq.mpr c7
   clear c7
   have H':=Aside0.mk H
   clear H
   have p232:0 ≤ (x5_1:Int):=of_decide_eq_true (by first | (with_reducible assumption) | assumption)
   have q232:x5_1 < (l0.length:Int):=of_decide_eq_true (by first | (with_reducible assumption) | assumption)
   obtain ⟨ad232,e232,hx232_0⟩:=Kd.at_int HR0.out x5_1 p232 q232
   cases e232
   replace p232:=eq_true p232
   replace q232:=eq_true q232
   have p233:0 ≤ (x5_1:Int):=of_decide_eq_true (by first | (with_reducible assumption) | assumption)
   have q233:x5_1 < (l1.length:Int):=of_decide_eq_true (by first | (with_reducible assumption) | assumption)
   obtain ⟨ad233,e233,hx233_0⟩:=Kd.at_int HR1.out x5_1 p233 q233
   cases e233
   replace p233:=eq_true p233
   replace q233:=eq_true q233
   go_wp2
   repeat (go_quiet (fail);try go_wp2)
   go_roundg k1
   case measure=>have:=HK1.out;omega
   case rel=>exact ⟨(wrap64 (x5_1 + 1)),(by first | rfl | (simp;done) | (simp [*];done)),H',⟨by have:=HK1.out;omega⟩,by repeat (first | exact Drawn0.refl _ | apply Drawn0.step)⟩
def numnahref01_Contains.l0:Nat → ByteArray → Int → Int → Option (Bool)
 | 0,_,_,_=>none
 | k + 1,x0,x1,x5=>if x5 < (x0.size:Int) then (if 0 ≤ x5 then (if (bt x0 x5) = 45 then (numnahref01_Contains.l0 k x0 x1 (wrap64 (x5 + 1))) else (if (((bt x0 x5) - 48) % 256) = (Int.tmod (shr .i64 x1 x5) 2) then (numnahref01_Contains.l0 k x0 x1 (wrap64 (x5 + 1))) else (some false))) else (none)) else (some true)
def numnahref01_Contains.f (k:Nat) (a0:ByteArray) (a1:Int):Option (Bool):=numnahref01_Contains.l0 k a0 a1 0
theorem numnahref01_Contains.mono_l:∀ k,(∀ y0 y1 y2,LeO (numnahref01_Contains.l0 k y0 y1 y2) (numnahref01_Contains.l0 (k + 1) y0 y1 y2))
 | 0=>fun _ _ _ r h=>by simp [numnahref01_Contains.l0] at h
 | k + 1=>by
  have ih0:=numnahref01_Contains.mono_l k
  intro y0 y1 y2
  unfold numnahref01_Contains.l0
  repeat' first
  | (with_reducible exact ih0 _ _ _)
  | (with_reducible exact LeO.refl _)
  | (with_reducible exact LeO.none _)
  | (with_reducible refine LeO.ite ?_ ?_)
  | (with_reducible refine LeO.bind ?_ (fun _=>?_))
  | exact ih0 _ _ _
  | exact LeO.none _
  | refine LeO.ite ?_ ?_
  | refine LeO.bind ?_ (fun _=>?_)
theorem numnahref01_Contains.mono:∀ a0 a1 k,LeO (numnahref01_Contains.f k a0 a1) (numnahref01_Contains.f (k + 1) a0 a1):=by
 intro a0 a1 k
 have ih0:=numnahref01_Contains.mono_l k
 unfold numnahref01_Contains.f
 repeat' first
   | (with_reducible exact ih0 _ _ _)
   | (with_reducible exact LeO.refl _)
   | (with_reducible exact LeO.none _)
   | (with_reducible refine LeO.ite ?_ ?_)
   | (with_reducible refine LeO.bind ?_ (fun _=>?_))
   | exact ih0 _ _ _
   | exact LeO.none _
   | refine LeO.ite ?_ ?_
   | refine LeO.bind ?_ (fun _=>?_)
theorem numnahref01_Contains.calls (k:Nat) (a0:ByteArray) (a1:Int) (r:Bool) (w:World) (h:numnahref01_Contains.f k a0 a1 = some r) :
  Calls Try.prog 68 #[.string a0,.int .i64 a1] w fun e w'=>e = .returned (.bool r) ∧ Drawn0 w w':=by
 have H:(numnahref01_Contains.l0 k a0 a1 0) = some r:=h
 clear h
 have H':=Aside0.mk H
 clear H
 go_enter Try.func68,Try.ntmps68
 go_wp2
 repeat (go_quiet (fail);try go_wp2)
 go_loopg [5] k (fun kq v5 w'=>∃ (x5_1:Int),v5 = .int .i64 x5_1 ∧ Aside0 (numnahref01_Contains.l0 kq a0 a1 x5_1 = some r) ∧ Aside0 (kq ≤ k) ∧ Drawn0 w w')
 case atStart=>exact ⟨(0),(by first | rfl | (simp;done) | (simp [*];done)),H',⟨Nat.le_refl _⟩,by repeat (first | exact Drawn0.refl _ | apply Drawn0.step)⟩
 case round =>
  clear H'
  try clear p2
  obtain ⟨x5_1,rfl,HA,HK1,⟨m1,rfl⟩⟩:=hrel
  cases gk with
  | zero=>exact absurd HA.out (by simp [numnahref01_Contains.l0])
  | succ k1 =>
   have H:=HA.out
   clear HA
   simp only [numnahref01_Contains.l0] at H
   by_cases c3:x5_1 < (a0.size:Int)
   case neg =>
    rw [if_neg c3] at H
    have c3b0:decide (x5_1 < (a0.size:Int)) = false:=decide_eq_false c3
    clear c3
    obtain rfl:=Option.some.inj H
    go_wp2
    repeat (go_quiet (fail);try go_wp2)
    go_ret
    exact ⟨by first | rfl | (simp;done) | (simp [*];done),by repeat (first | exact Drawn0.refl _ | apply Drawn0.step)⟩
   rw [if_pos c3] at H
   have c3b0:decide (x5_1 < (a0.size:Int)) = true:=decide_eq_true c3
   clear c3
   by_cases c4:0 ≤ x5_1
   case neg =>
    rw [if_neg c4] at H
    exact absurd H (by simp)
   rw [if_pos c4] at H
   have c4b0:decide (0 ≤ x5_1) = true:=decide_eq_true c4
   clear c4
   by_cases c6:(bt a0 x5_1) = 45
   ·rw [if_pos c6] at H
    have c6b0:((bt a0 x5_1) == 45) = true:=beq_iff_eq.mpr c6
    have c6b1:((bt a0 x5_1) != 45) = false:=bne_eq_false_iff_eq.mpr c6
    clear c6
    have H':=Aside0.mk H
    clear H
    have p5:0 ≤ (x5_1:Int):=of_decide_eq_true (by first | (with_reducible assumption) | assumption)
    have q5:x5_1 < (a0.size:Int):=of_decide_eq_true (by first | (with_reducible assumption) | assumption)
    have hx5:=bt_at a0 x5_1
    replace p5:=eq_true p5
    replace q5:=eq_true q5
    go_wp2
    repeat (go_quiet (fail);try go_wp2)
    go_roundg k1
    case measure=>have:=HK1.out;omega
    case rel=>exact ⟨(wrap64 (x5_1 + 1)),(by first | rfl | (simp;done) | (simp [*];done)),H',⟨by have:=HK1.out;omega⟩,by repeat (first | exact Drawn0.refl _ | apply Drawn0.step)⟩
   rw [if_neg c6] at H
   have c6b0:((bt a0 x5_1) == 45) = false:=beq_eq_false_iff_ne.mpr c6
   have c6b1:((bt a0 x5_1) != 45) = true:=bne_iff_ne.mpr c6
   have c8b0:=eq_true (of_decide_eq_true (by first | (with_reducible assumption) | assumption):0 ≤ x5_1)
   obtain ⟨ji9,hji9⟩:∃ j_:Int,(shr .i64 a1 x5_1) = j_:=⟨_,rfl⟩
   replace H:(if (((bt a0 x5_1) - 48) % 256) = (Int.tmod (ji9) 2) then (numnahref01_Contains.l0 k1 a0 a1 (wrap64 (x5_1 + 1))) else (some false)) = some r:=by first | (rw [hji9] at H;exact H) | (simp only [hji9] at H ⊢;exact H)
   have hji9_:(a1 / 2 ^ min x5_1.toNat 64) = ji9:=hji9
   have hji9z:x5_1 ≤ 64 → (a1 / 2 ^ x5_1.toNat) = ji9:=shr_small hji9
   by_cases c10:(((bt a0 x5_1) - 48) % 256) = (Int.tmod (ji9) 2)
   case neg =>
    rw [if_neg c10] at H
    have c10b0:((((bt a0 x5_1) - 48) % 256) == (Int.tmod (ji9) 2)) = false:=beq_eq_false_iff_ne.mpr c10
    have c10b1:((((bt a0 x5_1) - 48) % 256) != (Int.tmod (ji9) 2)) = true:=bne_iff_ne.mpr c10
    obtain rfl:=Option.some.inj H
    have p5:0 ≤ (x5_1:Int):=of_decide_eq_true (by first | (with_reducible assumption) | assumption)
    have q5:x5_1 < (a0.size:Int):=of_decide_eq_true (by first | (with_reducible assumption) | assumption)
    have hx5:=bt_at a0 x5_1
    replace p5:=eq_true p5
    replace q5:=eq_true q5
    have p7:0 ≤ (x5_1:Int):=of_decide_eq_true (by first | (with_reducible assumption) | assumption)
    have q7:x5_1 < (a0.size:Int):=of_decide_eq_true (by first | (with_reducible assumption) | assumption)
    have hx7:=bt_at a0 x5_1
    replace p7:=eq_true p7
    replace q7:=eq_true q7
    go_wp2
    repeat (go_quiet (fail);try go_wp2)
    go_ret
    exact ⟨by first | rfl | (simp;done) | (simp only [← hji9] <;> (first | rfl | simp)) | (simp [*];done),by repeat (first | exact Drawn0.refl _ | apply Drawn0.step)⟩
   rw [if_pos c10] at H
   have c10b0:((((bt a0 x5_1) - 48) % 256) == (Int.tmod (ji9) 2)) = true:=beq_iff_eq.mpr c10
   have c10b1:((((bt a0 x5_1) - 48) % 256) != (Int.tmod (ji9) 2)) = false:=bne_eq_false_iff_eq.mpr c10
   clear c10
   have H':=Aside0.mk H
   clear H
   have p5:0 ≤ (x5_1:Int):=of_decide_eq_true (by first | (with_reducible assumption) | assumption)
   have q5:x5_1 < (a0.size:Int):=of_decide_eq_true (by first | (with_reducible assumption) | assumption)
   have hx5:=bt_at a0 x5_1
   replace p5:=eq_true p5
   replace q5:=eq_true q5
   have p7:0 ≤ (x5_1:Int):=of_decide_eq_true (by first | (with_reducible assumption) | assumption)
   have q7:x5_1 < (a0.size:Int):=of_decide_eq_true (by first | (with_reducible assumption) | assumption)
   have hx7:=bt_at a0 x5_1
   replace p7:=eq_true p7
   replace q7:=eq_true q7
   go_wp2
   repeat (go_quiet (fail);try go_wp2)
   go_roundg k1
   case measure=>have:=HK1.out;omega
   case rel=>exact ⟨(wrap64 (x5_1 + 1)),(by first | rfl | (simp;done) | (simp [*];done)),H',⟨by have:=HK1.out;omega⟩,by repeat (first | exact Drawn0.refl _ | apply Drawn0.step)⟩
def numnahref01_Points.l0:Nat → ByteArray → List Int → Int → Option (List Int)
 | 0,_,_,_=>none
 | k + 1,x0,x3,x4=>if x4 < (shl .i64 1 (x0.size:Int)) then ((numnahref01_Contains.f k x0 x4).bind fun t234=>(if t234 = true then (if x3.length < 17592186044416 then (numnahref01_Points.l0 k x0 (x3 ++ [x4]) (wrap64 (x4 + 1))) else (none)) else (numnahref01_Points.l0 k x0 x3 (wrap64 (x4 + 1))))) else (some x3)
def numnahref01_Points.f (k:Nat) (a0:ByteArray):Option (List Int):=numnahref01_Points.l0 k a0 ([]:List Int) 0
theorem numnahref01_Points.mono_l:∀ k,(∀ y0 y1 y2,LeO (numnahref01_Points.l0 k y0 y1 y2) (numnahref01_Points.l0 (k + 1) y0 y1 y2))
 | 0=>fun _ _ _ r h=>by simp [numnahref01_Points.l0] at h
 | k + 1=>by
  have ih0:=numnahref01_Points.mono_l k
  intro y0 y1 y2
  unfold numnahref01_Points.l0
  repeat' first
  | (with_reducible exact ih0 _ _ _)
  | (with_reducible exact numnahref01_Contains.mono _ _ _)
  | (with_reducible exact LeO.refl _)
  | (with_reducible exact LeO.none _)
  | (with_reducible refine LeO.ite ?_ ?_)
  | (with_reducible refine LeO.bind ?_ (fun _=>?_))
  | exact ih0 _ _ _
  | exact numnahref01_Contains.mono _ _ _
  | exact LeO.none _
  | refine LeO.ite ?_ ?_
  | refine LeO.bind ?_ (fun _=>?_)
theorem numnahref01_Points.mono:∀ a0 k,LeO (numnahref01_Points.f k a0) (numnahref01_Points.f (k + 1) a0):=by
 intro a0 k
 have ih0:=numnahref01_Points.mono_l k
 unfold numnahref01_Points.f
 repeat' first
   | (with_reducible exact ih0 _ _ _)
   | (with_reducible exact numnahref01_Contains.mono _ _ _)
   | (with_reducible exact LeO.refl _)
   | (with_reducible exact LeO.none _)
   | (with_reducible refine LeO.ite ?_ ?_)
   | (with_reducible refine LeO.bind ?_ (fun _=>?_))
   | exact ih0 _ _ _
   | exact numnahref01_Contains.mono _ _ _
   | exact LeO.none _
   | refine LeO.ite ?_ ?_
   | refine LeO.bind ?_ (fun _=>?_)
theorem numnahref01_Points.calls (k:Nat) (a0:ByteArray) (r:List Int) (w:World) (h:numnahref01_Points.f k a0 = some r) :
  Calls Try.prog 36 #[.string a0] w fun e w'=>∃ v0_:Value,e = .returned (v0_) ∧ Kd.R (Kd.int .i64) 3 w' w.heap.size (fun _=>True) v0_ r ∧ Below w.heap.size w w':=by
 have HB:=Aside0.mk (Below.refl w.heap.size w)
 have H:(numnahref01_Points.l0 k a0 ([]:List Int) 0) = some r:=h
 clear h
 have H':=Aside0.mk H
 clear H
 go_enter Try.func36,Try.ntmps36
 go_wp2
 go_loopg [3,4] k (fun kq v3 v4 w'=>∃ (x3_1:List Int) (x4_1:Int),v4 = .int .i64 x4_1 ∧ Aside0 (numnahref01_Points.l0 kq a0 x3_1 x4_1 = some r) ∧ Aside0 (kq ≤ k) ∧ Aside0 (Kd.R (Kd.int .i64) 3 w' w.heap.size (fun _=>True) v3 x3_1) ∧ Aside0 (Below w.heap.size w w'))
 case atStart=>exact ⟨(([]:List Int)),(0),(by first | rfl | (simp;done) | (simp [*];done)),H',⟨Nat.le_refl _⟩,⟨by first | exact Kd.R_nil _ _ _ _ _ | exact Kd.N_nil _ _ _ _ _ | exact Kd.V_nil _ _ _ _ _ | exact Kd.Q_nil _ _ _ _ _ | exact Kd.S_nil _ _ _ _ _⟩,⟨by repeat (first | (with_reducible first | exact HB.out | apply below_alloc | apply pw_below_drewN | apply below_drew1) | exact HB.out)⟩⟩
 case round =>
  clear H'
  obtain ⟨x3_1,x4_1,rfl,HA,HK1,HO_3,HB⟩:=hrel
  cases gk with
  | zero=>exact absurd HA.out (by simp [numnahref01_Points.l0])
  | succ k1 =>
   have H:=HA.out
   clear HA
   simp only [numnahref01_Points.l0] at H
   obtain ⟨ji2,hji2⟩:∃ j_:Int,(shl .i64 1 (a0.size:Int)) = j_:=⟨_,rfl⟩
   replace H:(if x4_1 < (ji2) then ((numnahref01_Contains.f k1 a0 x4_1).bind fun t234=>(if t234 = true then (if x3_1.length < 17592186044416 then (numnahref01_Points.l0 k1 a0 (x3_1 ++ [x4_1]) (wrap64 (x4_1 + 1))) else (none)) else (numnahref01_Points.l0 k1 a0 x3_1 (wrap64 (x4_1 + 1))))) else (some x3_1)) = some r:=by first | (rw [hji2] at H;exact H) | (simp only [hji2] at H ⊢;exact H)
   have hji2_:(IntKind.i64.wrap (1 * 2 ^ min (a0.size:Int).toNat 64)) = ji2:=hji2
   have hji2z:(a0.size:Int) ≤ 64 → (IntKind.i64.wrap (1 * 2 ^ (a0.size:Int).toNat)) = ji2:=shl_small hji2
   have hji2u:(IntKind.i64.wrap (2 ^ min (a0.size:Int).toNat 64)) = ji2:=by have h_:=hji2_;rw [Int.one_mul] at h_;exact h_
   have hji2v:(a0.size:Int) ≤ 64 → (IntKind.i64.wrap (2 ^ (a0.size:Int).toNat)) = ji2:=fun hle_=>by have h_:=hji2z hle_;rw [Int.one_mul] at h_;exact h_
   have hji2y:(wrap64 (1 * 2 ^ min (a0.size:Int).toNat 64)) = ji2:=(i64_w _).symm.trans hji2_
   have hji2n:(wrap64 (2 ^ min a0.size 64)) = ji2:=by have h_:=hji2y;rw [Int.one_mul,Int.toNat_natCast] at h_;exact h_
   have hji2x:(a0.size:Int) ≤ 64 → (wrap64 (1 * 2 ^ (a0.size:Int).toNat)) = ji2:=fun h_=>(i64_w _).symm.trans (hji2z h_)
   by_cases c3:x4_1 < (ji2)
   case neg =>
    rw [if_neg c3] at H
    have c3b0:decide (x4_1 < (ji2)) = false:=decide_eq_false c3
    clear c3
    obtain rfl:=Option.some.inj H
    go_wp2
    go_ret
    exact ⟨_,by first | rfl | (simp [errW_none,errW_some] <;> rfl) | (simp only [← hji2];first | rfl | (simp [errW_none,errW_some] <;> rfl)) | (simp [*,errW_none,errW_some] <;> rfl),by (with_reducible repeat (first | apply Kd.R_alloc | apply Kd.R_drewN | apply Kd.R_drew));exact HO_3.out,by repeat (first | (with_reducible first | exact HB.out | apply below_alloc | apply pw_below_drewN | apply below_drew1) | exact HB.out)⟩
   rw [if_pos c3] at H
   have c3b0:decide (x4_1 < (ji2)) = true:=decide_eq_true c3
   clear c3
   replace H:=Option.bind_eq_some_iff.mp H
   obtain ⟨t234,A40,H⟩:=H
   replace H:(if t234 = true then (if x3_1.length < 17592186044416 then (numnahref01_Points.l0 k1 a0 (x3_1 ++ [x4_1]) (wrap64 (x4_1 + 1))) else (none)) else (numnahref01_Points.l0 k1 a0 x3_1 (wrap64 (x4_1 + 1)))) = some r:=H
   have A4:=Aside0.mk A40
   clear A40
   by_cases c5:t234 = true
   case neg =>
    replace c5:=Bool.eq_false_iff.mpr c5
    subst c5
    have H1:(numnahref01_Points.l0 k1 a0 x3_1 (wrap64 (x4_1 + 1))) = some r:=by rw [if_neg (show ¬ (false = true) by decide)] at H;exact H
    clear H
    have H:=H1
    clear H1
    have H':=Aside0.mk H
    clear H
    go_wp2_with (first | ((with_reducible refine gate_callee (f:=68) rfl ?_);refine goesL_ (some 14) rfl rfl Try.func68 (by kernel_rfl) rfl #[.string a0,.int .i64 x4_1] rfl (by (try simp only [List.map_toArray,List.map_cons,List.map_nil]);first | done | rfl | (simp only [List.length_drop,List.length_take];rfl)) ?_;(with_reducible refine (numnahref01_Contains.calls k1 a0 x4_1 false _ A4.out).mono ?_);rintro e w' ⟨rfl,⟨nd,rfl⟩⟩;refine ⟨_,rfl,?_⟩))
    go_roundg k1
    case measure=>have:=HK1.out;omega
    case rel=>exact ⟨(x3_1),(wrap64 (x4_1 + 1)),(by first | rfl | (simp;done) | (simp [*];done)),H',⟨by have:=HK1.out;omega⟩,⟨by (with_reducible repeat (first | apply Kd.R_alloc | apply Kd.R_drewN | apply Kd.R_drew));exact HO_3.out⟩,⟨by repeat (first | (with_reducible first | exact HB.out | apply below_alloc | apply pw_below_drewN | apply below_drew1) | exact HB.out)⟩⟩
   subst c5
   have H1:(if x3_1.length < 17592186044416 then (numnahref01_Points.l0 k1 a0 (x3_1 ++ [x4_1]) (wrap64 (x4_1 + 1))) else (none)) = some r:=by rw [if_pos rfl] at H;exact H
   clear H
   have H:=H1
   clear H1
   by_cases c6:x3_1.length < 17592186044416
   case neg =>
    rw [if_neg c6] at H
    exact absurd H (by simp)
   rw [if_pos c6] at H
   have LMc6:=Aside0.mk c6
   clear c6
   obtain ⟨y235,hy235⟩:∃ y_:List Int,y_ = (x3_1 ++ [x4_1]):=⟨_,rfl⟩
   replace H:(numnahref01_Points.l0 k1 a0 y235 (wrap64 (x4_1 + 1))) = some r:=by first | (rw [hy235];with_reducible exact H) | (have H2_:=(Option.bind_some _ _).symm.trans H;rw [hy235];with_reducible exact H2_) | (have H2_:=(Option.bind_some _ _).symm.trans H;with_reducible exact H2_) | with_reducible exact H | (rw [hy235];exact H) | exact H
   have Ny235:=Aside0.mk hy235
   clear hy235
   have H':=Aside0.mk H
   clear H
   go_wp2_with (first | ((with_reducible refine gate_callee (f:=68) rfl ?_);refine goesL_ (some 14) rfl rfl Try.func68 (by kernel_rfl) rfl #[.string a0,.int .i64 x4_1] rfl (by (try simp only [List.map_toArray,List.map_cons,List.map_nil]);first | done | rfl | (simp only [List.length_drop,List.length_take];rfl)) ?_;(with_reducible refine (numnahref01_Contains.calls k1 a0 x4_1 true _ A4.out).mono ?_);rintro e w' ⟨rfl,⟨nd,rfl⟩⟩;refine ⟨_,rfl,?_⟩) | ((with_reducible refine gate_builtin (b:=.append) (xs:=#[.tmp 15,.tmp 17]) rfl ?_);at_builtin;refine Kd.R_append (Kd.int .i64) (w0:=w) w.heap.size rfl (.tmp 15) (.tmp 17) 22 3 (.int .i64 0) 8 rfl Try.underlying22 info3 rfl (by decide) (by omega) u3 x3_1 x4_1 [.int .i64 x4_1] (fun _=>True) (fun _=>False) rfl rfl ?aP (fun _ hk=>hk.elim) ?aF ?aO ?aB ?aS ?aL ?_;(case aP=>exact rfl);(case aB=>exact (by repeat (first | (with_reducible first | exact HB.out | apply below_alloc | apply pw_below_drewN | apply below_drew1) | exact HB.out)));(case aF=>exact (fun _ _=>trivial));(case aO=>exact (by (with_reducible repeat (first | apply Kd.R_alloc | apply Kd.R_drewN | apply Kd.R_drew));exact HO_3.out));(case aS=>exact (below_size (by repeat (first | (with_reducible first | exact HB.out | apply below_alloc | apply pw_below_drewN | apply below_drew1) | exact HB.out))));(case aL=>have:=LMc6.out;omega);intro v236 w7 ho hb hg hat;rw [← Ny235.out] at ho;have n0_:=Aside0.mk (hb);have n1_:=Aside0.mk (ho);clear HB;clear HO_3;have HB:=n0_;have HO237:=n1_;clear n0_ n1_;clear ho hb hg hat))
   go_roundg k1
   case measure=>have:=HK1.out;omega
   case rel=>exact ⟨(y235),(wrap64 (x4_1 + 1)),(by first | rfl | (simp;done) | (simp [*];done)),H',⟨by have:=HK1.out;omega⟩,⟨by (with_reducible repeat (first | apply Kd.R_alloc | apply Kd.R_drewN | apply Kd.R_drew));exact HO237.out⟩,⟨by repeat (first | (with_reducible first | exact HB.out | apply below_alloc | apply pw_below_drewN | apply below_drew1) | exact HB.out)⟩⟩
def numnahlaw01_CardPoints.j0:Nat → ByteArray → List Int → Int → Bool → Option (Bool)
 | 0,_,_,_,_=>none
 | k + 1,x3,x4,x5,x27=>if x27 = true then (if (x4.length:Int) = 0 then (if x5 = 2 then ((numnahlaw01_awake.f).bind fun t244=>(some t244)) else (some false)) else (some false)) else ((numnahref01_Points.f k x3).bind fun t245=>((numnahlaw01_ints.f k x4 t245).bind fun t248=>(if t248 = true then (if x5 = 0 then ((numnahlaw01_awake.f).bind fun t249=>(some t249)) else (some false)) else (some false))))
def numnahlaw01_CardPoints.f (k:Nat) (a0:ByteArray):Option (Bool):=(numnahlaw01_short.f a0).bind fun t238=>((card_Points.f k t238).bind fun bt239=>(if (t238.size:Int) < 1 then (numnahlaw01_CardPoints.j0 k t238 bt239.1 bt239.2 true) else (if (t238.size:Int) > 5 then (numnahlaw01_CardPoints.j0 k t238 bt239.1 bt239.2 true) else ((numnahref01_Cube.f k t238 (t238.size:Int)).bind fun t243=>(numnahlaw01_CardPoints.j0 k t238 bt239.1 bt239.2 (!t243))))))
theorem numnahlaw01_CardPoints.mono_l:∀ k,(∀ y0 y1 y2 y3,LeO (numnahlaw01_CardPoints.j0 k y0 y1 y2 y3) (numnahlaw01_CardPoints.j0 (k + 1) y0 y1 y2 y3))
 | 0=>fun _ _ _ _ r h=>by simp [numnahlaw01_CardPoints.j0] at h
 | k + 1=>by
  have ih0:=numnahlaw01_CardPoints.mono_l k
  intro y0 y1 y2 y3
  unfold numnahlaw01_CardPoints.j0
  repeat' first
  | (with_reducible exact ih0 _ _ _ _)
  | (with_reducible exact card_Points.mono _ _)
  | (with_reducible exact numnahlaw01_ints.mono _ _ _)
  | (with_reducible exact numnahref01_Cube.mono _ _ _)
  | (with_reducible exact numnahref01_Points.mono _ _)
  | (with_reducible exact LeO.refl _)
  | (with_reducible exact LeO.none _)
  | (with_reducible refine LeO.ite ?_ ?_)
  | (with_reducible refine LeO.bind ?_ (fun _=>?_))
  | exact ih0 _ _ _ _
  | exact card_Points.mono _ _
  | exact numnahlaw01_ints.mono _ _ _
  | exact numnahref01_Cube.mono _ _ _
  | exact numnahref01_Points.mono _ _
  | exact LeO.none _
  | refine LeO.ite ?_ ?_
  | refine LeO.bind ?_ (fun _=>?_)
theorem numnahlaw01_CardPoints.mono:∀ a0 k,LeO (numnahlaw01_CardPoints.f k a0) (numnahlaw01_CardPoints.f (k + 1) a0):=by
 intro a0 k
 have ih0:=numnahlaw01_CardPoints.mono_l k
 unfold numnahlaw01_CardPoints.f
 repeat' first
   | (with_reducible exact ih0 _ _ _ _)
   | (with_reducible exact card_Points.mono _ _)
   | (with_reducible exact numnahlaw01_ints.mono _ _ _)
   | (with_reducible exact numnahref01_Cube.mono _ _ _)
   | (with_reducible exact numnahref01_Points.mono _ _)
   | (with_reducible exact LeO.refl _)
   | (with_reducible exact LeO.none _)
   | (with_reducible refine LeO.ite ?_ ?_)
   | (with_reducible refine LeO.bind ?_ (fun _=>?_))
   | exact ih0 _ _ _ _
   | exact card_Points.mono _ _
   | exact numnahlaw01_ints.mono _ _ _
   | exact numnahref01_Cube.mono _ _ _
   | exact numnahref01_Points.mono _ _
   | exact LeO.none _
   | refine LeO.ite ?_ ?_
   | refine LeO.bind ?_ (fun _=>?_)
theorem numnahlaw01_CardPoints.calls (k:Nat) (a0:ByteArray) (r:Bool) (w:World) (h:numnahlaw01_CardPoints.f k a0 = some r) :
  Calls Try.prog 5 #[.string a0] w fun e w'=>e = .returned (.bool r) ∧ Below w.heap.size w w':=by
 have HB:=Aside0.mk (Below.refl w.heap.size w)
 have H:((numnahlaw01_short.f a0).bind fun t238=>((card_Points.f k t238).bind fun bt239=>(if (t238.size:Int) < 1 then (numnahlaw01_CardPoints.j0 k t238 bt239.1 bt239.2 true) else (if (t238.size:Int) > 5 then (numnahlaw01_CardPoints.j0 k t238 bt239.1 bt239.2 true) else ((numnahref01_Cube.f k t238 (t238.size:Int)).bind fun t243=>(numnahlaw01_CardPoints.j0 k t238 bt239.1 bt239.2 (!t243))))))) = some r:=h
 clear h
 replace H:=Option.bind_eq_some_iff.mp H
 obtain ⟨t238,A20,H⟩:=H
 replace H:((card_Points.f k t238).bind fun bt239=>(if (t238.size:Int) < 1 then (numnahlaw01_CardPoints.j0 k t238 bt239.1 bt239.2 true) else (if (t238.size:Int) > 5 then (numnahlaw01_CardPoints.j0 k t238 bt239.1 bt239.2 true) else ((numnahref01_Cube.f k t238 (t238.size:Int)).bind fun t243=>(numnahlaw01_CardPoints.j0 k t238 bt239.1 bt239.2 (!t243)))))) = some r:=H
 have A2:=Aside0.mk A20
 clear A20
 replace H:=Option.bind_eq_some_iff.mp H
 obtain ⟨⟨t239,t240⟩,A30,H⟩:=H
 replace H:(if (t238.size:Int) < 1 then (numnahlaw01_CardPoints.j0 k t238 t239 t240 true) else (if (t238.size:Int) > 5 then (numnahlaw01_CardPoints.j0 k t238 t239 t240 true) else ((numnahref01_Cube.f k t238 (t238.size:Int)).bind fun t243=>(numnahlaw01_CardPoints.j0 k t238 t239 t240 (!t243))))) = some r:=H
 have A3:=Aside0.mk A30
 clear A30
 have HC4:=Aside0.mk H
 clear H
 go_enter Try.func5,Try.ntmps5
 go_upto_region 3 with (first | ((with_reducible refine gate_callee (f:=16) rfl ?_);refine goesL_ (some 7) rfl rfl Try.func16 (by kernel_rfl) rfl #[.string a0] rfl (by (try simp only [List.map_toArray,List.map_cons,List.map_nil]);first | done | rfl | (simp only [List.length_drop,List.length_take];rfl)) ?_;(with_reducible refine (numnahlaw01_short.calls a0 t238 _ A2.out).mono ?_);rintro e w5 ⟨rfl,hb⟩;refine ⟨_,rfl,?_⟩;have n0_:=Aside0.mk (below_step (by repeat (first | (with_reducible first | exact HB.out | apply below_alloc | apply pw_below_drewN | apply below_drew1) | exact HB.out)) hb);clear HB;have HB:=n0_;clear n0_;(try clear hb)) | ((with_reducible refine gate_callee (f:=34) rfl ?_);refine goesL_ (some 10) rfl rfl Try.func34 (by kernel_rfl) rfl #[.string t238] rfl (by (try simp only [List.map_toArray,List.map_cons,List.map_nil]);first | done | rfl | (simp only [List.length_drop,List.length_take];rfl)) ?_;(with_reducible refine (card_Points.calls k t238 t239 t240 _ A3.out).mono ?_);rintro e w6 ⟨v241,rfl,ho0,hb⟩;refine ⟨_,rfl,?_⟩;have n0_:=Aside0.mk (Kd.R_lower ho0 (below_size (by repeat (first | (with_reducible first | exact HB.out | apply below_alloc | apply pw_below_drewN | apply below_drew1) | exact HB.out))));have n1_:=Aside0.mk (below_step (by repeat (first | (with_reducible first | exact HB.out | apply below_alloc | apply pw_below_drewN | apply below_drew1) | exact HB.out)) hb);clear HB;have HO242:=n0_;have HB:=n1_;clear n0_ n1_;(try clear hb);(try clear ho0)))
 (try simp only [Act.put,List.setIfInBounds_toArray,List.set_cons_zero,List.set_cons_succ])
 go_cut [27] (fun v27 wc=>∃ (kq:Nat) (x27_3:Bool),v27 = .bool x27_3 ∧ Aside0 (numnahlaw01_CardPoints.j0 kq t238 t239 t240 x27_3 = some r) ∧ Aside0 (kq ≤ k) ∧ Aside0 (Kd.R (Kd.int .i64) 3 wc w.heap.size (fun _=>True) v241 t239) ∧ Aside0 (Below w.heap.size w wc))
 case first =>
  have H:=HC4.out
  clear HC4
  by_cases c7:(t238.size:Int) < 1
  ·rw [if_pos c7] at H
   have c7b0:decide ((t238.size:Int) < 1) = true:=decide_eq_true c7
   have c7b1:decide (t238.size < 1) = true:=decide_eq_true (by omega)
   clear c7
   (first | rw [c7b0] | (simp only [i64_w,i32_w];rw [c7b0]) | skip)
   have H':=Aside0.mk H
   clear H
   go_wp2
   go_meet
   case rel=>exact ⟨_,(true),(by first | rfl | (simp;done) | (simp [*];done)),H',⟨by first | omega | exact Nat.le_refl _⟩,⟨by (with_reducible repeat (first | apply Kd.R_alloc | apply Kd.R_drewN | apply Kd.R_drew));exact HO242.out⟩,⟨by repeat (first | (with_reducible first | exact HB.out | apply below_alloc | apply pw_below_drewN | apply below_drew1) | exact HB.out)⟩⟩
  rw [if_neg c7] at H
  have c7b0:decide ((t238.size:Int) < 1) = false:=decide_eq_false c7
  have c7b1:decide (t238.size < 1) = false:=decide_eq_false (by omega)
  clear c7
  (first | rw [c7b0] | (simp only [i64_w,i32_w];rw [c7b0]) | skip)
  by_cases c8:(t238.size:Int) > 5
  ·rw [if_pos c8] at H
   have c8b0:decide (5 < (t238.size:Int)) = true:=decide_eq_true c8
   have c8b1:decide (5 < t238.size) = true:=decide_eq_true (by omega)
   clear c8
   have H':=Aside0.mk H
   clear H
   go_wp2
   go_meet
   case rel=>exact ⟨_,(true),(by first | rfl | (simp;done) | (simp [*];done)),H',⟨by first | omega | exact Nat.le_refl _⟩,⟨by (with_reducible repeat (first | apply Kd.R_alloc | apply Kd.R_drewN | apply Kd.R_drew));exact HO242.out⟩,⟨by repeat (first | (with_reducible first | exact HB.out | apply below_alloc | apply pw_below_drewN | apply below_drew1) | exact HB.out)⟩⟩
  rw [if_neg c8] at H
  have c8b0:decide (5 < (t238.size:Int)) = false:=decide_eq_false c8
  have c8b1:decide (5 < t238.size) = false:=decide_eq_false (by omega)
  clear c8
  replace H:=Option.bind_eq_some_iff.mp H
  obtain ⟨t243,A90,H⟩:=H
  replace H:(numnahlaw01_CardPoints.j0 k t238 t239 t240 (!t243)) = some r:=H
  have A9:=Aside0.mk A90
  clear A90
  have H':=Aside0.mk H
  clear H
  go_wp2_with (first | (go_at_call 30;(with_reducible refine (numnahref01_Cube.calls k t238 (t238.size:Int) t243 _ A9.out).mono ?_);rintro e w' ⟨rfl,⟨nd,rfl⟩⟩))
  go_meet
  case rel=>exact ⟨_,(!t243),(by first | rfl | (simp;done) | (simp [*];done)),H',⟨by first | omega | exact Nat.le_refl _⟩,⟨by (with_reducible repeat (first | apply Kd.R_alloc | apply Kd.R_drewN | apply Kd.R_drew));exact HO242.out⟩,⟨by repeat (first | (with_reducible first | exact HB.out | apply below_alloc | apply pw_below_drewN | apply below_drew1) | exact HB.out)⟩⟩
 case rest =>
  clear HC4
  try clear c1
  try clear p2
  try clear c3
  try clear c5
  try clear c7
  try clear c7b0
  try clear c7b1
  try clear c8
  try clear c8b0
  try clear c8b1
  obtain ⟨kq,x27_3,rfl,HA,HJ3,HO_4,HB⟩:=hcut
  cases kq with
  | zero=>exact absurd HA.out (by simp [numnahlaw01_CardPoints.j0])
  | succ kj3 =>
   have H:=HA.out
   clear HA
   simp only [numnahlaw01_CardPoints.j0] at H
   by_cases c10:x27_3 = true
   ·subst c10
    have H1:(if (t239.length:Int) = 0 then (if t240 = 2 then ((numnahlaw01_awake.f).bind fun t244=>(some t244)) else (some false)) else (some false)) = some r:=by rw [if_pos rfl] at H;exact H
    clear H
    have H:=H1
    clear H1
    by_cases c11:(t239.length:Int) = 0
    case neg =>
     rw [if_neg c11] at H
     have c11b0:((t239.length:Int) == 0) = false:=beq_eq_false_iff_ne.mpr c11
     have c11b1:((t239.length:Int) != 0) = true:=bne_iff_ne.mpr c11
     have c11b2:¬ (t239 = []):=fun h_=>c11 (by rw [h_];rfl)
     obtain rfl:=Option.some.inj H
     obtain ⟨Ao17,co17,eo17⟩:=Kd.R_slice HO_4.out
     subst eo17
     go_wp2
     go_ret
     exact ⟨by first | rfl | (simp [errW_none,errW_some] <;> rfl) | (simp [*,errW_none,errW_some] <;> rfl),by repeat (first | (with_reducible first | exact HB.out | apply below_alloc | apply pw_below_drewN | apply below_drew1) | exact HB.out)⟩
    rw [if_pos c11] at H
    have c11b0:((t239.length:Int) == 0) = true:=beq_iff_eq.mpr c11
    have c11b1:((t239.length:Int) != 0) = false:=bne_eq_false_iff_eq.mpr c11
    clear c11
    by_cases c12:t240 = 2
    case neg =>
     rw [if_neg c12] at H
     have c12b0:(t240 == 2) = false:=beq_eq_false_iff_ne.mpr c12
     have c12b1:(t240 != 2) = true:=bne_iff_ne.mpr c12
     obtain rfl:=Option.some.inj H
     obtain ⟨Ao16,co16,eo16⟩:=Kd.R_slice HO_4.out
     subst eo16
     go_wp2
     go_ret
     exact ⟨by first | rfl | (simp [errW_none,errW_some] <;> rfl) | (simp [*,errW_none,errW_some] <;> rfl),by repeat (first | (with_reducible first | exact HB.out | apply below_alloc | apply pw_below_drewN | apply below_drew1) | exact HB.out)⟩
    rw [if_pos c12] at H
    have c12b0:(t240 == 2) = true:=beq_iff_eq.mpr c12
    have c12b1:(t240 != 2) = false:=bne_eq_false_iff_eq.mpr c12
    clear c12
    replace H:=Option.bind_eq_some_iff.mp H
    obtain ⟨t244,A130,H⟩:=H
    replace H:(some t244) = some r:=H
    have A13:=Aside0.mk A130
    clear A130
    obtain rfl:=Option.some.inj H
    obtain ⟨Ao14,co14,eo14⟩:=Kd.R_slice HO_4.out
    subst eo14
    go_wp2_with (first | (go_at_call 22;(with_reducible refine (numnahlaw01_awake.calls  t244 _ A13.out).mono ?_);rintro e w15 ⟨rfl,hb⟩;have n0_:=Aside0.mk (Kd.R_below (by (with_reducible repeat (first | apply Kd.R_alloc | apply Kd.R_drewN | apply Kd.R_drew));exact HO_4.out) hb);have n1_:=Aside0.mk (below_step (by repeat (first | (with_reducible first | exact HB.out | apply below_alloc | apply pw_below_drewN | apply below_drew1) | exact HB.out)) hb);clear HO_4;clear HB;have HO_4:=n0_;have HB:=n1_;clear n0_ n1_;(try clear hb)))
    go_ret
    exact ⟨by first | rfl | (simp [errW_none,errW_some] <;> rfl) | (simp [*,errW_none,errW_some] <;> rfl),by repeat (first | (with_reducible first | exact HB.out | apply below_alloc | apply pw_below_drewN | apply below_drew1) | exact HB.out)⟩
   replace c10:=Bool.eq_false_iff.mpr c10
   subst c10
   have H1:((numnahref01_Points.f kj3 t238).bind fun t245=>((numnahlaw01_ints.f kj3 t239 t245).bind fun t248=>(if t248 = true then (if t240 = 0 then ((numnahlaw01_awake.f).bind fun t249=>(some t249)) else (some false)) else (some false)))) = some r:=by rw [if_neg (show ¬ (false = true) by decide)] at H;exact H
   clear H
   have H:=H1
   clear H1
   replace H:=Option.bind_eq_some_iff.mp H
   obtain ⟨t245,A180,H⟩:=H
   replace H:((numnahlaw01_ints.f kj3 t239 t245).bind fun t248=>(if t248 = true then (if t240 = 0 then ((numnahlaw01_awake.f).bind fun t249=>(some t249)) else (some false)) else (some false))) = some r:=H
   have A18:=Aside0.mk A180
   clear A180
   replace H:=Option.bind_eq_some_iff.mp H
   obtain ⟨t248,A190,H⟩:=H
   replace H:(if t248 = true then (if t240 = 0 then ((numnahlaw01_awake.f).bind fun t249=>(some t249)) else (some false)) else (some false)) = some r:=H
   have A19:=Aside0.mk A190
   clear A190
   by_cases c20:t248 = true
   case neg =>
    replace c20:=Bool.eq_false_iff.mpr c20
    subst c20
    have H1:(some false) = some r:=by rw [if_neg (show ¬ (false = true) by decide)] at H;exact H
    clear H
    have H:=H1
    clear H1
    obtain rfl:=Option.some.inj H
    go_wp2_with (first | ((with_reducible refine gate_callee (f:=36) rfl ?_);refine goesL_ (some 40) rfl rfl Try.func36 (by kernel_rfl) rfl #[.string t238] rfl (by (try simp only [List.map_toArray,List.map_cons,List.map_nil]);first | done | rfl | (simp only [List.length_drop,List.length_take];rfl)) ?_;(with_reducible refine (numnahref01_Points.calls kj3 t238 t245 _ A18.out).mono ?_);rintro e w30 ⟨v246,rfl,ho0,hb⟩;refine ⟨_,rfl,?_⟩;have n0_:=Aside0.mk (Kd.R_elder' (by (with_reducible repeat (first | apply Kd.R_alloc | apply Kd.R_drewN | apply Kd.R_drew));exact HO_4.out) (Kd.R_base ho0) hb);have n1_:=Aside0.mk (Kd.R_lower (Kd.R_new' ho0 (Kd.R_lt (by (with_reducible repeat (first | apply Kd.R_alloc | apply Kd.R_drewN | apply Kd.R_drew));exact HO_4.out))) (below_size (by repeat (first | (with_reducible first | exact HB.out | apply below_alloc | apply pw_below_drewN | apply below_drew1) | exact HB.out))));have n2_:=Aside0.mk (below_step (by repeat (first | (with_reducible first | exact HB.out | apply below_alloc | apply pw_below_drewN | apply below_drew1) | exact HB.out)) hb);clear HO_4;clear HB;have HO_4:=n0_;have HO247:=n1_;have HB:=n2_;clear n0_ n1_ n2_;(try clear hb);(try clear ho0);obtain ⟨Ao31,co31,eo31⟩:=Kd.R_slice HO_4.out;subst eo31;obtain ⟨Ao32,co32,eo32⟩:=Kd.R_slice HO247.out;subst eo32) | ((with_reducible refine gate_callee (f:=35) rfl ?_);refine goesL_ (some 41) rfl rfl Try.func35 (by kernel_rfl) rfl #[.slice Ao31 t239.length co31,.slice Ao32 t245.length co32] rfl (by (try simp only [List.map_toArray,List.map_cons,List.map_nil]);first | done | rfl | (simp only [List.length_drop,List.length_take];rfl)) ?_;(with_reducible refine (numnahlaw01_ints.calls kj3 _ _ t239 _ _ t245 false _ ?side1 ?side2 ?side3 ?side4 A19.out).mono ?_);(case side1=>repeat (first | exact (Kd.R_reads' HO_4.out).2.2 | (with_reducible refine Kd.C_alloc ?_ _) | (with_reducible refine Kd.C_drewN ?_ _) | (with_reducible refine Kd.C_drew ?_)));(case side2=>exact (Kd.R_reads' HO_4.out).2.1);(case side3=>repeat (first | exact (Kd.R_reads' HO247.out).2.2 | (with_reducible refine Kd.C_alloc ?_ _) | (with_reducible refine Kd.C_drewN ?_ _) | (with_reducible refine Kd.C_drew ?_)));(case side4=>exact (Kd.R_reads' HO247.out).2.1);rintro e w' ⟨rfl,⟨nd,rfl⟩⟩;refine ⟨_,rfl,?_⟩))
    go_ret
    exact ⟨by first | rfl | (simp [errW_none,errW_some] <;> rfl) | (simp [*,errW_none,errW_some] <;> rfl),by repeat (first | (with_reducible first | exact HB.out | apply below_alloc | apply pw_below_drewN | apply below_drew1) | exact HB.out)⟩
   subst c20
   have H1:(if t240 = 0 then ((numnahlaw01_awake.f).bind fun t249=>(some t249)) else (some false)) = some r:=by rw [if_pos rfl] at H;exact H
   clear H
   have H:=H1
   clear H1
   by_cases c21:t240 = 0
   case neg =>
    rw [if_neg c21] at H
    have c21b0:(t240 == 0) = false:=beq_eq_false_iff_ne.mpr c21
    have c21b1:(t240 != 0) = true:=bne_iff_ne.mpr c21
    obtain rfl:=Option.some.inj H
    go_wp2_with (first | ((with_reducible refine gate_callee (f:=36) rfl ?_);refine goesL_ (some 40) rfl rfl Try.func36 (by kernel_rfl) rfl #[.string t238] rfl (by (try simp only [List.map_toArray,List.map_cons,List.map_nil]);first | done | rfl | (simp only [List.length_drop,List.length_take];rfl)) ?_;(with_reducible refine (numnahref01_Points.calls kj3 t238 t245 _ A18.out).mono ?_);rintro e w27 ⟨v246,rfl,ho0,hb⟩;refine ⟨_,rfl,?_⟩;have n0_:=Aside0.mk (Kd.R_elder' (by (with_reducible repeat (first | apply Kd.R_alloc | apply Kd.R_drewN | apply Kd.R_drew));exact HO_4.out) (Kd.R_base ho0) hb);have n1_:=Aside0.mk (Kd.R_lower (Kd.R_new' ho0 (Kd.R_lt (by (with_reducible repeat (first | apply Kd.R_alloc | apply Kd.R_drewN | apply Kd.R_drew));exact HO_4.out))) (below_size (by repeat (first | (with_reducible first | exact HB.out | apply below_alloc | apply pw_below_drewN | apply below_drew1) | exact HB.out))));have n2_:=Aside0.mk (below_step (by repeat (first | (with_reducible first | exact HB.out | apply below_alloc | apply pw_below_drewN | apply below_drew1) | exact HB.out)) hb);clear HO_4;clear HB;have HO_4:=n0_;have HO247:=n1_;have HB:=n2_;clear n0_ n1_ n2_;(try clear hb);(try clear ho0);obtain ⟨Ao28,co28,eo28⟩:=Kd.R_slice HO_4.out;subst eo28;obtain ⟨Ao29,co29,eo29⟩:=Kd.R_slice HO247.out;subst eo29) | ((with_reducible refine gate_callee (f:=35) rfl ?_);refine goesL_ (some 41) rfl rfl Try.func35 (by kernel_rfl) rfl #[.slice Ao28 t239.length co28,.slice Ao29 t245.length co29] rfl (by (try simp only [List.map_toArray,List.map_cons,List.map_nil]);first | done | rfl | (simp only [List.length_drop,List.length_take];rfl)) ?_;(with_reducible refine (numnahlaw01_ints.calls kj3 _ _ t239 _ _ t245 true _ ?side1 ?side2 ?side3 ?side4 A19.out).mono ?_);(case side1=>repeat (first | exact (Kd.R_reads' HO_4.out).2.2 | (with_reducible refine Kd.C_alloc ?_ _) | (with_reducible refine Kd.C_drewN ?_ _) | (with_reducible refine Kd.C_drew ?_)));(case side2=>exact (Kd.R_reads' HO_4.out).2.1);(case side3=>repeat (first | exact (Kd.R_reads' HO247.out).2.2 | (with_reducible refine Kd.C_alloc ?_ _) | (with_reducible refine Kd.C_drewN ?_ _) | (with_reducible refine Kd.C_drew ?_)));(case side4=>exact (Kd.R_reads' HO247.out).2.1);rintro e w' ⟨rfl,⟨nd,rfl⟩⟩;refine ⟨_,rfl,?_⟩))
    go_ret
    exact ⟨by first | rfl | (simp [errW_none,errW_some] <;> rfl) | (simp [*,errW_none,errW_some] <;> rfl),by repeat (first | (with_reducible first | exact HB.out | apply below_alloc | apply pw_below_drewN | apply below_drew1) | exact HB.out)⟩
   rw [if_pos c21] at H
   have c21b0:(t240 == 0) = true:=beq_iff_eq.mpr c21
   have c21b1:(t240 != 0) = false:=bne_eq_false_iff_eq.mpr c21
   clear c21
   replace H:=Option.bind_eq_some_iff.mp H
   obtain ⟨t249,A220,H⟩:=H
   replace H:(some t249) = some r:=H
   have A22:=Aside0.mk A220
   clear A220
   obtain rfl:=Option.some.inj H
   go_wp2_with (first | ((with_reducible refine gate_callee (f:=36) rfl ?_);refine goesL_ (some 40) rfl rfl Try.func36 (by kernel_rfl) rfl #[.string t238] rfl (by (try simp only [List.map_toArray,List.map_cons,List.map_nil]);first | done | rfl | (simp only [List.length_drop,List.length_take];rfl)) ?_;(with_reducible refine (numnahref01_Points.calls kj3 t238 t245 _ A18.out).mono ?_);rintro e w23 ⟨v246,rfl,ho0,hb⟩;refine ⟨_,rfl,?_⟩;have n0_:=Aside0.mk (Kd.R_elder' (by (with_reducible repeat (first | apply Kd.R_alloc | apply Kd.R_drewN | apply Kd.R_drew));exact HO_4.out) (Kd.R_base ho0) hb);have n1_:=Aside0.mk (Kd.R_lower (Kd.R_new' ho0 (Kd.R_lt (by (with_reducible repeat (first | apply Kd.R_alloc | apply Kd.R_drewN | apply Kd.R_drew));exact HO_4.out))) (below_size (by repeat (first | (with_reducible first | exact HB.out | apply below_alloc | apply pw_below_drewN | apply below_drew1) | exact HB.out))));have n2_:=Aside0.mk (below_step (by repeat (first | (with_reducible first | exact HB.out | apply below_alloc | apply pw_below_drewN | apply below_drew1) | exact HB.out)) hb);clear HO_4;clear HB;have HO_4:=n0_;have HO247:=n1_;have HB:=n2_;clear n0_ n1_ n2_;(try clear hb);(try clear ho0);obtain ⟨Ao24,co24,eo24⟩:=Kd.R_slice HO_4.out;subst eo24;obtain ⟨Ao25,co25,eo25⟩:=Kd.R_slice HO247.out;subst eo25) | ((with_reducible refine gate_callee (f:=35) rfl ?_);refine goesL_ (some 41) rfl rfl Try.func35 (by kernel_rfl) rfl #[.slice Ao24 t239.length co24,.slice Ao25 t245.length co25] rfl (by (try simp only [List.map_toArray,List.map_cons,List.map_nil]);first | done | rfl | (simp only [List.length_drop,List.length_take];rfl)) ?_;(with_reducible refine (numnahlaw01_ints.calls kj3 _ _ t239 _ _ t245 true _ ?side1 ?side2 ?side3 ?side4 A19.out).mono ?_);(case side1=>repeat (first | exact (Kd.R_reads' HO_4.out).2.2 | (with_reducible refine Kd.C_alloc ?_ _) | (with_reducible refine Kd.C_drewN ?_ _) | (with_reducible refine Kd.C_drew ?_)));(case side2=>exact (Kd.R_reads' HO_4.out).2.1);(case side3=>repeat (first | exact (Kd.R_reads' HO247.out).2.2 | (with_reducible refine Kd.C_alloc ?_ _) | (with_reducible refine Kd.C_drewN ?_ _) | (with_reducible refine Kd.C_drew ?_)));(case side4=>exact (Kd.R_reads' HO247.out).2.1);rintro e w' ⟨rfl,⟨nd,rfl⟩⟩;refine ⟨_,rfl,?_⟩) | (go_at_call 22;(with_reducible refine (numnahlaw01_awake.calls  t249 _ A22.out).mono ?_);rintro e w26 ⟨rfl,hb⟩;have n0_:=Aside0.mk (Kd.R_below (by (with_reducible repeat (first | apply Kd.R_alloc | apply Kd.R_drewN | apply Kd.R_drew));exact HO_4.out) hb);have n1_:=Aside0.mk (Kd.R_below (by (with_reducible repeat (first | apply Kd.R_alloc | apply Kd.R_drewN | apply Kd.R_drew));exact HO247.out) hb);have n2_:=Aside0.mk (below_step (by repeat (first | (with_reducible first | exact HB.out | apply below_alloc | apply pw_below_drewN | apply below_drew1) | exact HB.out)) hb);clear HO_4;clear HO247;clear HB;have HO_4:=n0_;have HO247:=n1_;have HB:=n2_;clear n0_ n1_ n2_;(try clear hb)))
   go_ret
   exact ⟨by first | rfl | (simp [errW_none,errW_some] <;> rfl) | (simp [*,errW_none,errW_some] <;> rfl),by repeat (first | (with_reducible first | exact HB.out | apply below_alloc | apply pw_below_drewN | apply below_drew1) | exact HB.out)⟩
def numnahlaw01_CardPoints.Pure:Prop:=∀ (a0:ByteArray),a0.size ≤ 140737488351232 → ∃ k,numnahlaw01_CardPoints.f k a0 = some true
theorem numnahlaw01_CardPoints.walk (P:numnahlaw01_CardPoints.Pure) (a0:ByteArray) (w:World) (w0:a0.size ≤ 140737488351232) :
  Calls Try.prog 5 #[.string a0] w fun e w'=>e = .returned (.bool true) ∧ Below w.heap.size w w':=by
 obtain ⟨k,h⟩:=P a0 w0
 refine (numnahlaw01_CardPoints.calls k a0 true w h).mono ?_
 rintro e w' ⟨rfl,hd⟩
 exact ⟨rfl,hd⟩
end Go.Proofs.Ythpahlkhiknofaa.G
set_option linter.unusedSectionVars false
namespace Go.Proofs.Ythpahlkhiknofaa.P
open Go Go.RowKit Go.Proofs.Ythpahlkhiknofaa.M Go.Proofs.Ythpahlkhiknofaa.G
open Go.Proofs.YthpahlkhiknofaaW.PrintWords Go.Proofs.YthpahlkhiknofaaW.PrintMore
theorem short_f (s:ByteArray):∃ c:ByteArray,c.size ≤ 40 ∧ numnahlaw01_short.f s = some c:=by
 unfold numnahlaw01_short.f
 refine ⟨s.extract 0 ((mn (s.size:Int) 40):Int).toNat,?_,?_⟩
 ·rw [ByteArray.size_extract]
  have:(mn (s.size:Int) 40) ≤ 40:=by unfold mn;split <;> omega
  omega
 ·rw [if_pos (by unfold mn;split <;> omega),if_pos (by unfold mn;split <;> omega)]
section
variable {c:ByteArray} (hc:c.size ≤ 40)
include hc
theorem cube_l0 (n:Int):∀ d i,i + d = c.size → Ev (fun k=>numnahref01_Cube.l0 k c n (i:Int)) (allF (isC c) d i && ((c.size:Int) == n)):=by
 intro d
 induction d with
 | zero =>
  intro i hi
  refine Ev.step (f:=fun _=>some ((c.size:Int) == n)) (fun k=>?_) (by rw [allF,Bool.true_and];exact Ev.now _)
  rw [numnahref01_Cube.l0,if_neg (by omega)]
 | succ d ih =>
  intro i hi
  have hn:=ih (i + 1) (by omega)
  refine Ev.step (fun k=>by rw [numnahref01_Cube.l0,if_pos (by omega),if_pos (by omega),wrap_succ (by omega)]) ?_
  rw [allF]
  by_cases h1:bt c (i:Int) = 48
  ·have:isC c i = true:=by unfold isC;simp [h1]
   rw [this,Bool.true_and]
   exact Ev.congr (fun k=>if_pos h1) hn
  ·by_cases h2:bt c (i:Int) = 49
   ·have:isC c i = true:=by unfold isC;simp [h2]
    rw [this,Bool.true_and]
    exact Ev.congr (fun k=>if_neg h1) (Ev.congr (fun k=>if_pos h2) hn)
   ·by_cases h3:bt c (i:Int) = 45
    ·have:isC c i = true:=by unfold isC;simp [h3]
     rw [this,Bool.true_and]
     exact Ev.congr (fun k=>if_neg h1) (Ev.congr (fun k=>if_neg h2) (Ev.congr (fun k=>if_pos h3) hn))
    ·have:isC c i = false:=by unfold isC;simp [h1,h2,h3]
     rw [this]
     exact Ev.congr (fun k=>if_neg h1) (Ev.congr (fun k=>if_neg h2) (Ev.congr (fun k=>if_neg h3) (Ev.now _)))
theorem ev_cube (n:Int):Ev (fun k=>numnahref01_Cube.f k c n) (okC c && ((c.size:Int) == n)):=cube_l0 hc n c.size 0 (by omega)
def newC (c:ByteArray):Int × Int × Bool:=if okC c && decide (c.size ≤ 5) then ((careN c c.size:Int),(valN c c.size:Int),decide (0 < c.size)) else (0,0,false)
theorem newCube_l0:∀ d i,i + d = c.size → i ≤ 5 → Ev (fun k=>card_newCube.l0 k c (c.size:Int) (i:Int) (careN c i:Int) (valN c i:Int)) (if allF (isC c) d i && decide (c.size ≤ 5) then ((careN c c.size:Int),(valN c c.size:Int),decide (0 < c.size)) else (0,0,false)):=by
 intro d
 induction d with
 | zero =>
  intro i hi h5
  obtain rfl:i = c.size:=by omega
  rw [allF,Bool.true_and,decide_eq_true h5,if_pos rfl]
  refine Ev.step (f:=fun _=>some ((careN c c.size:Int),(valN c c.size:Int),decide (0 < c.size))) (fun k=>?_) (Ev.now _)
  rw [card_newCube.l0,if_neg (by omega)]
  congr 3
  rw [Bool.eq_iff_iff,decide_eq_true_iff]
  have hl:c.toList.length = c.size:=toList_len c
  rw [bne_iff_ne,← hl]
  exact List.length_pos_iff.symm
 | succ d ih =>
  intro i hi h5
  have hcare:=careN_lt c i
  have hval:=valN_lt c i
  have hp:i < 5 → 2 ^ i ≤ 32:=fun h=>by
   have:2 ^ i ≤ 2 ^ 5:=Nat.pow_le_pow_right (by decide) (by omega)
   omega
  refine Ev.step (fun k=>by rw [card_newCube.l0,if_pos (by omega),if_pos (by omega),if_pos (by omega),wrap_succ (by omega)]) ?_
  rw [allF]
  by_cases hi5:i < 5
  ·have hn:=ih (i + 1) (by omega) (by omega)
   have h32:=hp hi5
   have e1:Go.bits .or .i64 (careN c i:Int) (shl .i64 1 (i:Int)) = ((careN c i ||| 2 ^ i:Nat):Int):=by rw [shl_one (by omega)];exact ni_or _ _ (by omega) (by omega)
   have e2:Go.bits .or .i64 (valN c i:Int) (shl .i64 1 (i:Int)) = ((valN c i ||| 2 ^ i:Nat):Int):=by rw [shl_one (by omega)];exact ni_or _ _ (by omega) (by omega)
   rw [e1,e2]
   rw [careN,valN] at hn
   by_cases h1:bt c (i:Int) = 48
   ·have:isC c i = true:=by unfold isC;simp [h1]
    rw [this,Bool.true_and]
    rw [if_neg (by omega),if_neg (by omega)] at hn
    exact Ev.congr (fun k=>if_pos h1) (Ev.congr (fun k=>if_neg (by omega)) hn)
   ·by_cases h2:bt c (i:Int) = 49
    ·have:isC c i = true:=by unfold isC;simp [h2]
     rw [this,Bool.true_and]
     rw [if_neg (by omega),if_pos h2] at hn
     exact Ev.congr (fun k=>if_neg h1) (Ev.congr (fun k=>if_pos h2) (Ev.congr (fun k=>if_neg (by omega)) hn))
    ·by_cases h3:bt c (i:Int) = 45
     ·have:isC c i = true:=by unfold isC;simp [h3]
      rw [this,Bool.true_and]
      rw [if_pos h3,if_neg h2] at hn
      exact Ev.congr (fun k=>if_neg h1) (Ev.congr (fun k=>if_neg h2) (Ev.congr (fun k=>if_pos h3) (Ev.congr (fun k=>if_neg (by omega)) hn)))
     ·have:isC c i = false:=by unfold isC;simp [h1,h2,h3]
      rw [this,Bool.false_and,Bool.false_and,if_neg (by decide)]
      exact Ev.congr (fun k=>if_neg h1) (Ev.congr (fun k=>if_neg h2) (Ev.congr (fun k=>if_neg h3) (Ev.now _)))
  ·have hs:decide (c.size ≤ 5) = false:=decide_eq_false (by omega)
   rw [hs,Bool.and_false,if_neg (by decide)]
   by_cases h1:bt c (i:Int) = 48
   ·exact Ev.congr (fun k=>if_pos h1) (Ev.congr (fun k=>if_pos (by omega)) (Ev.now _))
   ·by_cases h2:bt c (i:Int) = 49
    ·exact Ev.congr (fun k=>if_neg h1) (Ev.congr (fun k=>if_pos h2) (Ev.congr (fun k=>if_pos (by omega)) (Ev.now _)))
    ·by_cases h3:bt c (i:Int) = 45
     ·exact Ev.congr (fun k=>if_neg h1) (Ev.congr (fun k=>if_neg h2) (Ev.congr (fun k=>if_pos h3) (Ev.congr (fun k=>if_pos (by omega)) (Ev.now _))))
     ·exact Ev.congr (fun k=>if_neg h1) (Ev.congr (fun k=>if_neg h2) (Ev.congr (fun k=>if_neg h3) (Ev.now _)))
theorem ev_newCube:Ev (fun k=>card_newCube.f k c) (newC c):=newCube_l0 hc c.size 0 (by omega) (by omega)
theorem contains_l0 (p:Nat):∀ d i,i + d = c.size → Ev (fun k=>numnahref01_Contains.l0 k c (p:Int) (i:Int)) (allF (fun i=>decide (bt c (i:Int) = 45) || decide ((bt c (i:Int) - 48) % 256 = if p.testBit i then 1 else 0)) d i):=by
 intro d
 induction d with
 | zero =>
  intro i hi
  refine Ev.step (f:=fun _=>some true) (fun k=>?_) (Ev.now _)
  rw [numnahref01_Contains.l0,if_neg (by omega)]
 | succ d ih =>
  intro i hi
  have hn:=ih (i + 1) (by omega)
  refine Ev.step (fun k=>by rw [numnahref01_Contains.l0,if_pos (by omega),if_pos (by omega),wrap_succ (by omega),digit (by omega)]) ?_
  rw [allF]
  by_cases h1:bt c (i:Int) = 45
  ·rw [decide_eq_true h1,Bool.true_or,Bool.true_and]
   exact Ev.congr (fun k=>if_pos h1) hn
  ·rw [decide_eq_false h1,Bool.false_or]
   by_cases h2:(bt c (i:Int) - 48) % 256 = if p.testBit i then 1 else 0
   ·rw [decide_eq_true h2,Bool.true_and]
    exact Ev.congr (fun k=>if_neg h1) (Ev.congr (fun k=>if_pos h2) hn)
   ·rw [decide_eq_false h2,Bool.false_and]
    exact Ev.congr (fun k=>if_neg h1) (Ev.congr (fun k=>if_neg h2) (Ev.now _))
theorem ev_contains (hok:okC c = true) (p:Nat):Ev (fun k=>numnahref01_Contains.f k c (p:Int)) (inC c p):=by
 have h:=contains_l0 hc p c.size 0 (by omega)
 have e:allF (fun i=>decide (bt c (i:Int) = 45) || decide ((bt c (i:Int) - 48) % 256 = if p.testBit i then 1 else 0)) c.size 0 = inC c p:=by
  unfold inC
  refine allF_congr fun j _ hj=>?_
  have:=(allF_iff _ _ _).1 hok j (by omega) hj
  unfold isC at this
  simp only [decide_eq_true_eq] at this
  unfold atC
  rcases this with h1 | h1 | h1 <;> rw [h1] <;> cases p.testBit j <;> decide
 rw [e] at h
 exact h
omit hc
def ptsI (c:ByteArray) (i:Nat):List Int:=((List.range i).filter (inC c)).map Int.ofNat
theorem ptsI_succ (c:ByteArray) (i:Nat):ptsI c (i + 1) = if inC c i = true then ptsI c i ++ [(i:Int)] else ptsI c i:=by
 unfold ptsI
 rw [List.range_succ,List.filter_append,List.map_append]
 by_cases h:inC c i = true
 ·rw [if_pos h];simp [h]
 ·rw [if_neg h];simp [h]
theorem ptsI_len (c:ByteArray) (i:Nat):(ptsI c i).length ≤ i:=by
 unfold ptsI
 rw [List.length_map]
 exact Nat.le_trans (List.length_filter_le _ _) (by rw [List.length_range];exact Nat.le_refl _)
include hc
theorem rpoints_l0 (hok:okC c = true) (h5:c.size ≤ 5):∀ d i,i + d = 2 ^ c.size → Ev (fun k=>numnahref01_Points.l0 k c (ptsI c i) (i:Int)) (ptsI c (2 ^ c.size)):=by
 have hp:2 ^ c.size ≤ 32:=by
  have:2 ^ c.size ≤ 2 ^ 5:=Nat.pow_le_pow_right (by decide) h5
  omega
 intro d
 induction d with
 | zero =>
  intro i hi
  obtain rfl:i = 2 ^ c.size:=by omega
  refine Ev.step (f:=fun _=>some (ptsI c (2 ^ c.size))) (fun k=>?_) (Ev.now _)
  rw [numnahref01_Points.l0,shl_one (by omega),if_neg (by omega)]
 | succ d ih =>
  intro i hi
  have hn:=ih (i + 1) (by omega)
  rw [ptsI_succ] at hn
  have hl:=ptsI_len c i
  refine Ev.step (fun k=>by rw [numnahref01_Points.l0,shl_one (by omega),if_pos (by omega),wrap_succ (by omega)]) (Ev.bind (ev_contains hc hok i) ?_)
  by_cases h:inC c i = true
  ·rw [if_pos h] at hn
   exact Ev.congr (fun k=>if_pos h) (Ev.congr (fun k=>if_pos (by omega)) hn)
  ·rw [if_neg h] at hn
   exact Ev.congr (fun k=>if_neg h) hn
theorem points_l0 (hok:okC c = true) (h5:c.size ≤ 5):∀ d i,i + d = 2 ^ c.size → Ev (fun k=>card_Points.l0 k (ptsI c i) ((2 ^ c.size:Nat):Int) (i:Int) (careN c c.size:Int) (valN c c.size:Int)) (ptsI c (2 ^ c.size),0):=by
 have hp:2 ^ c.size ≤ 32:=by
  have:2 ^ c.size ≤ 2 ^ 5:=Nat.pow_le_pow_right (by decide) h5
  omega
 have hcl:=careN_lt c c.size
 intro d
 induction d with
 | zero =>
  intro i hi
  obtain rfl:i = 2 ^ c.size:=by omega
  refine Ev.step (f:=fun _=>some (ptsI c (2 ^ c.size),0)) (fun k=>?_) (Ev.now _)
  rw [card_Points.l0,if_neg (by omega)]
 | succ d ih =>
  intro i hi
  have hn:=ih (i + 1) (by omega)
  rw [ptsI_succ] at hn
  have hl:=ptsI_len c i
  have hh:card_cube_has.f (careN c c.size:Int) (valN c c.size:Int) (i:Int) = some (inC c i):=by
   unfold card_cube_has.f
   rw [ni_and _ _ (by omega) (by omega),← has_iff hok]
   congr 1
   rw [Bool.eq_iff_iff,beq_iff_eq,beq_iff_eq]
   exact Int.ofNat_inj
  refine Ev.step (fun k=>by rw [card_Points.l0,if_pos (by omega),hh,Option.bind_some,wrap_succ (by omega)]) ?_
  by_cases h:inC c i = true
  ·rw [if_pos h] at hn
   exact Ev.congr (fun k=>if_pos h) (Ev.congr (fun k=>if_pos (by omega)) hn)
  ·rw [if_neg h] at hn
   exact Ev.congr (fun k=>if_neg h) hn
end
theorem ints_l0 {a:List Int} (ha:a.length ≤ 1000000):∀ d i,i + d = a.length → Ev (fun k=>numnahlaw01_ints.l0 k a a (i:Int)) true:=by
 intro d
 induction d with
 | zero =>
  intro i hi
  refine Ev.step (f:=fun _=>some true) (fun k=>?_) (Ev.now _)
  rw [numnahlaw01_ints.l0,if_neg (by omega)]
 | succ d ih =>
  intro i hi
  refine Ev.step (fun k=>?_) (ih (i + 1) (by omega))
  rw [numnahlaw01_ints.l0,if_pos (by omega),if_pos (by omega),if_pos (by omega),if_pos rfl,wrap_succ (by omega)]
theorem ev_ints {a:List Int} (ha:a.length ≤ 1000000):Ev (fun k=>numnahlaw01_ints.f k a a) true:=by
 unfold numnahlaw01_ints.f
 exact Ev.congr (fun k=>if_pos rfl) (ints_l0 ha a.length 0 (by omega))
theorem ev_aw:Ev (fun _=>(numnahlaw01_awake.f).bind fun t=>some t) true:=Ev.now _
theorem points_pure (a0:ByteArray):∃ k,numnahlaw01_CardPoints.f k a0 = some true:=by
 refine Ev.rounds ?_
 unfold numnahlaw01_CardPoints.f
 obtain ⟨c,hc,e0⟩:=short_f a0
 rw [e0]
 simp only [Option.bind_some]
 have e1:=ev_newCube hc
 by_cases hgood:okC c = true ∧ 1 ≤ c.size ∧ c.size ≤ 5
 ·obtain ⟨hok,h1,h5⟩:=hgood
  have hp:2 ^ c.size ≤ 32:=by
   have:2 ^ c.size ≤ 2 ^ 5:=Nat.pow_le_pow_right (by decide) h5
   omega
  have ep:Ev (fun k=>card_Points.f k c) (ptsI c (2 ^ c.size),0):=by
   unfold card_Points.f
   refine Ev.bind e1 ?_
   unfold newC
   rw [hok,decide_eq_true h5,if_pos (show (true && true) = true from rfl),decide_eq_true (show 0 < c.size by omega)]
   refine Ev.congr (fun k=>if_pos rfl) ?_
   have:=points_l0 hc hok h5 (2 ^ c.size) 0 (by omega)
   rw [shl_one (by omega)]
   exact this
  have hr:Ev (fun k=>numnahref01_Points.f k c) (ptsI c (2 ^ c.size)):=rpoints_l0 hc hok h5 (2 ^ c.size) 0 (by omega)
  have hcu:=ev_cube hc (c.size:Int)
  rw [hok,beq_self_eq_true] at hcu
  have hl:=ptsI_len c (2 ^ c.size)
  refine Ev.bind ep (Ev.congr (fun k=>if_neg (by omega)) (Ev.congr (fun k=>if_neg (by omega)) (Ev.bind hcu ?_)))
  refine Ev.step (fun k=>by rw [numnahlaw01_CardPoints.j0,if_neg (by decide)]) (Ev.bind hr (Ev.bind (ev_ints (a:=ptsI c (2 ^ c.size)) (by omega)) (Ev.congr (fun k=>if_pos rfl) (Ev.congr (fun k=>if_pos rfl) ev_aw))))
 ·have ep:Ev (fun k=>card_Points.f k c) ([],2):=by
   unfold card_Points.f
   refine Ev.bind e1 ?_
   have hno:(newC c).2.2 = false:=by
    unfold newC
    split
    ·rename_i h
     rw [Bool.and_eq_true,decide_eq_true_eq] at h
     exact decide_eq_false (by intro h0;exact hgood ⟨h.1,by omega,h.2⟩)
    ·rfl
   exact Ev.congr (fun k=>if_neg (by rw [hno];decide)) (Ev.now _)
  have hj:Ev (fun k=>numnahlaw01_CardPoints.j0 k c [] 2 true) true:=by
   exact Ev.step (fun k=>by rw [numnahlaw01_CardPoints.j0,if_pos rfl,if_pos (show (([]:List Int).length:Int) = 0 from rfl),if_pos rfl]) ev_aw
  refine Ev.bind ep ?_
  by_cases h1:(c.size:Int) < 1
  ·exact Ev.congr (fun k=>if_pos h1) hj
  ·by_cases h5:(c.size:Int) > 5
   ·exact Ev.congr (fun k=>if_neg h1) (Ev.congr (fun k=>if_pos h5) hj)
   ·have hok:okC c = false:=by
     cases h:okC c
     ·rfl
     ·exact absurd ⟨h,by omega,by omega⟩ hgood
    have hcu:=ev_cube hc (c.size:Int)
    rw [hok,Bool.false_and] at hcu
    exact Ev.congr (fun k=>if_neg h1) (Ev.congr (fun k=>if_neg h5) (Ev.bind hcu hj))
theorem points_Pure:numnahlaw01_CardPoints.Pure:=fun a0 _=>points_pure a0
end Go.Proofs.Ythpahlkhiknofaa.P
