/- Several texts, joined. -/
import Derived.Maps.Keyed
import Derived.Maps.Own
import Derived.Test.YtjohcjfmlhihbaaQB3
set_option linter.unusedVariables false
set_option linter.unusedSimpArgs false

/- ### F33 -/
namespace Go.Proofs.Ytjohcjfmlhihbaa.G
open Go.RowKit Go.Proofs.YtjohcjfmlhihbaaW.PrintWords Go.Proofs.YtjohcjfmlhihbaaW.PrintLast Go.Proofs.YtjohcjfmlhihbaaW.PrintMore
attribute [local go_sem] cond_true cond_false fld23_0 fld23_1 fld45_0 fld45_1 fld109_0 fld109_1 fld94_0 fld94_1 max2_int min2_int max_two min_two max_three min_three max_four min_four   -- for this text's walks alone
set_option linter.unusedVariables false
set_option linter.unusedSimpArgs false
attribute [local go_sem high] eqA23
def numnahref07_Same.l0 : Nat → List (S23) → List (S23) → Int → Option (Bool)
 | 0, _, _, _ => none
 | k + 1, x0, x1, x5 => if x5 < (x0.length : Int) then (if 0 ≤ x5 then (if x5 < (x1.length : Int) then (if (!(((rd_T23 x0 x5).f0) == ((rd_T23 x1 x5).f0)) || (!(((rd_T23 x0 x5).f1) == ((rd_T23 x1 x5).f1)))) = true then (some false) else (numnahref07_Same.l0 k x0 x1 (wrap64 (x5 + 1)))) else (none)) else (none)) else (some true)
def numnahref07_Same.f (k : Nat) (l0 : List (S23)) (l1 : List (S23)) : Option (Bool) := if (l0.length : Int) = (l1.length : Int) then (numnahref07_Same.l0 k l0 l1 0) else (some false)
theorem numnahref07_Same.mono_l : ∀ k, (∀ y0 y1 y2, LeO (numnahref07_Same.l0 k y0 y1 y2) (numnahref07_Same.l0 (k + 1) y0 y1 y2))
 | 0 => fun _ _ _ r h => by simp [numnahref07_Same.l0] at h
 | k + 1 => by
  have ih0 := numnahref07_Same.mono_l k
  ·intro y0 y1 y2
   unfold numnahref07_Same.l0
   repeat' first
   | (with_reducible exact ih0 _ _ _)
   | (with_reducible exact LeO.refl _)
   | (with_reducible exact LeO.none _)
   | (with_reducible refine LeO.ite ?_ ?_)
   | (with_reducible refine LeO.bind ?_ (fun _ => ?_))
   | exact ih0 _ _ _
   | exact LeO.none _
   | refine LeO.ite ?_ ?_
   | refine LeO.bind ?_ (fun _ => ?_)
theorem numnahref07_Same.mono : ∀ a0 a1 k, LeO (numnahref07_Same.f k a0 a1) (numnahref07_Same.f (k + 1) a0 a1) := by
 intro a0 a1 k
 have ih0 := numnahref07_Same.mono_l k
 unfold numnahref07_Same.f
 repeat' first
   | (with_reducible exact ih0 _ _ _)
   | (with_reducible exact LeO.refl _)
   | (with_reducible exact LeO.none _)
   | (with_reducible refine LeO.ite ?_ ?_)
   | (with_reducible refine LeO.bind ?_ (fun _ => ?_))
   | exact ih0 _ _ _
   | exact LeO.none _
   | refine LeO.ite ?_ ?_
   | refine LeO.bind ?_ (fun _ => ?_)
set_option maxHeartbeats 8000000 in
set_option maxRecDepth 100000 in
theorem numnahref07_Same.calls (k : Nat) (A0 : Option Addr) (c0 : Nat) (l0 : List (S23)) (A1 : Option Addr) (c1 : Nat) (l1 : List (S23)) (r : Bool) (w : World) (hr0 : Kd.C k23 w A0 l0.length l0) (hc0 : l0.length ≤ c0) (hr1 : Kd.C k23 w A1 l1.length l1) (hc1 : l1.length ≤ c1) (h : numnahref07_Same.f k l0 l1 = some r) :
  Calls Try.prog 33 #[.slice A0 l0.length c0, .slice A1 l1.length c1] w fun e w' => e = .returned (.bool r) ∧ Drawn0 w w' := by
 have hu23 := Try.underlying23
 have HR0 := Aside0.mk hr0
 have HC0 := Aside0.mk hc0
 clear hr0 hc0
 have HR1 := Aside0.mk hr1
 have HC1 := Aside0.mk hc1
 clear hr1 hc1
 have H : (if (l0.length : Int) = (l1.length : Int) then (numnahref07_Same.l0 k l0 l1 0) else (some false)) = some r := h
 clear h
 by_cases c3 : (l0.length : Int) = (l1.length : Int)
 ·rw [if_pos c3] at H
  have c3b0 : ((l0.length : Int) == (l1.length : Int)) = true := beq_iff_eq.mpr c3
  have c3b1 : ((l0.length : Int) != (l1.length : Int)) = false := bne_eq_false_iff_eq.mpr c3
  have c3b2 : (l0.length == l1.length) = true := by first | simpa using c3 | (simp at c3 ⊢; omega)
  clear c3
  have H' := Aside0.mk H
  clear H
  go_enter Try.func33, Try.ntmps33
  go_wp2
  repeat (go_quiet (fail); try go_wp2)
  go_loopg [5] k (fun kq v5 w' => ∃ (x5_1 : Int), v5 = .int .i64 x5_1 ∧ Aside0 (numnahref07_Same.l0 kq l0 l1 x5_1 = some r) ∧ Aside0 (kq ≤ k) ∧ Drawn0 w w')
  case atStart => exact ⟨(0), (by first | rfl | (simp; done) | (simp [*]; done)), H', ⟨Nat.le_refl _⟩, by repeat (first | exact Drawn0.refl _ | apply Drawn0.step)⟩
  case round =>
   clear H'
   try clear c1
   try clear p2
   try clear c3
   try clear c3b0
   try clear c3b1
   try clear c3b2
   obtain ⟨x5_1, rfl, HA, HK1, ⟨m1, rfl⟩⟩ := hrel
   cases gk with
   | zero => exact absurd HA.out (by simp [numnahref07_Same.l0])
   | succ k1 =>
    have H := HA.out
    clear HA
    simp only [numnahref07_Same.l0] at H
    by_cases c4 : x5_1 < (l0.length : Int)
    ·rw [if_pos c4] at H
     have c4b0 : decide (x5_1 < (l0.length : Int)) = true := decide_eq_true c4
     clear c4
     by_cases c5 : 0 ≤ x5_1
     ·rw [if_pos c5] at H
      have c5b0 : decide (0 ≤ x5_1) = true := decide_eq_true c5
      clear c5
      by_cases c6 : x5_1 < (l1.length : Int)
      ·rw [if_pos c6] at H
       have c6b0 : decide (x5_1 < (l1.length : Int)) = true := decide_eq_true c6
       clear c6
       by_cases c7 : (!(((rd_T23 l0 x5_1).f0) == ((rd_T23 l1 x5_1).f0)) || (!(((rd_T23 l0 x5_1).f1) == ((rd_T23 l1 x5_1).f1)))) = true
       ·rw [if_pos c7] at H
        have c7b0 : (!(((rd_T23 l0 x5_1).f0) == ((rd_T23 l1 x5_1).f0)) || (!(((rd_T23 l0 x5_1).f1) == ((rd_T23 l1 x5_1).f1)))) = true := c7
        clear c7
        obtain rfl := Option.some.inj H
        have p306 : 0 ≤ (x5_1 : Int) := of_decide_eq_true (by first | (with_reducible assumption) | assumption)
        have q306 : x5_1 < (l0.length : Int) := of_decide_eq_true (by first | (with_reducible assumption) | assumption)
        obtain ⟨ad306, e306, hx306_0, hx306_1⟩ := at_T23 HR0.out x5_1 p306 q306
        cases e306
        replace p306 := eq_true p306
        replace q306 := eq_true q306
        have p307 : 0 ≤ (x5_1 : Int) := of_decide_eq_true (by first | (with_reducible assumption) | assumption)
        have q307 : x5_1 < (l1.length : Int) := of_decide_eq_true (by first | (with_reducible assumption) | assumption)
        obtain ⟨ad307, e307, hx307_0, hx307_1⟩ := at_T23 HR1.out x5_1 p307 q307
        cases e307
        replace p307 := eq_true p307
        replace q307 := eq_true q307
        go_wp2
        repeat (go_quiet (fail); try go_wp2)
        go_ret
        exact ⟨by first | rfl | (simp; done) | (simp [*]; done), by repeat (first | exact Drawn0.refl _ | apply Drawn0.step)⟩
       ·rw [if_neg c7] at H
        have c7b0 : (!(((rd_T23 l0 x5_1).f0) == ((rd_T23 l1 x5_1).f0)) || (!(((rd_T23 l0 x5_1).f1) == ((rd_T23 l1 x5_1).f1)))) = false := by simpa using c7
        clear c7
        have H' := Aside0.mk H
        clear H
        have p306 : 0 ≤ (x5_1 : Int) := of_decide_eq_true (by first | (with_reducible assumption) | assumption)
        have q306 : x5_1 < (l0.length : Int) := of_decide_eq_true (by first | (with_reducible assumption) | assumption)
        obtain ⟨ad306, e306, hx306_0, hx306_1⟩ := at_T23 HR0.out x5_1 p306 q306
        cases e306
        replace p306 := eq_true p306
        replace q306 := eq_true q306
        have p307 : 0 ≤ (x5_1 : Int) := of_decide_eq_true (by first | (with_reducible assumption) | assumption)
        have q307 : x5_1 < (l1.length : Int) := of_decide_eq_true (by first | (with_reducible assumption) | assumption)
        obtain ⟨ad307, e307, hx307_0, hx307_1⟩ := at_T23 HR1.out x5_1 p307 q307
        cases e307
        replace p307 := eq_true p307
        replace q307 := eq_true q307
        go_wp2
        repeat (go_quiet (fail); try go_wp2)
        go_roundg k1
        case measure => have := HK1.out; omega
        case rel => exact ⟨(wrap64 (x5_1 + 1)), (by first | rfl | (simp; done) | (simp [*]; done)), H', ⟨by have := HK1.out; omega⟩, by repeat (first | exact Drawn0.refl _ | apply Drawn0.step)⟩
      ·rw [if_neg c6] at H
       exact absurd H (by simp)
     ·rw [if_neg c5] at H
      exact absurd H (by simp)
    ·rw [if_neg c4] at H
     have c4b0 : decide (x5_1 < (l0.length : Int)) = false := decide_eq_false c4
     clear c4
     obtain rfl := Option.some.inj H
     go_wp2
     repeat (go_quiet (fail); try go_wp2)
     go_ret
     exact ⟨by first | rfl | (simp; done) | (simp [*]; done), by repeat (first | exact Drawn0.refl _ | apply Drawn0.step)⟩
 ·rw [if_neg c3] at H
  have c3b0 : ((l0.length : Int) == (l1.length : Int)) = false := beq_eq_false_iff_ne.mpr c3
  have c3b1 : ((l0.length : Int) != (l1.length : Int)) = true := bne_iff_ne.mpr c3
  have c3b2 : (l0.length == l1.length) = false := by first | simpa using c3 | (simp at c3 ⊢; omega)
  obtain rfl := Option.some.inj H
  go_enter Try.func33, Try.ntmps33
  go_wp2
  repeat (go_quiet (fail); try go_wp2)
  go_ret
  exact ⟨by first | rfl | (simp; done) | (simp [*]; done), by repeat (first | exact Drawn0.refl _ | apply Drawn0.step)⟩
end Go.Proofs.Ytjohcjfmlhihbaa.G

/- ### F46 -/
namespace Go.Proofs.Ytjohcjfmlhihbaa.G
open Go.RowKit Go.Proofs.YtjohcjfmlhihbaaW.PrintWords Go.Proofs.YtjohcjfmlhihbaaW.PrintLast Go.Proofs.YtjohcjfmlhihbaaW.PrintMore
attribute [local go_sem] cond_true cond_false fld23_0 fld23_1 fld45_0 fld45_1 fld109_0 fld109_1 fld94_0 fld94_1 max2_int min2_int max_two min_two max_three min_three max_four min_four   -- for this text's walks alone
set_option linter.unusedVariables false
set_option linter.unusedSimpArgs false
attribute [local go_sem high] eqA23
def numnahlaw07_ints.l0 : Nat → List Int → List Int → Int → Option (Bool)
 | 0, _, _, _ => none
 | k + 1, x0, x1, x5 => if x5 < (x0.length : Int) then (if 0 ≤ x5 then (if x5 < (x1.length : Int) then (if (rd x0 x5) = (rd x1 x5) then (numnahlaw07_ints.l0 k x0 x1 (wrap64 (x5 + 1))) else (some false)) else (none)) else (none)) else (some true)
def numnahlaw07_ints.f (k : Nat) (l0 : List Int) (l1 : List Int) : Option (Bool) := if (l0.length : Int) = (l1.length : Int) then (numnahlaw07_ints.l0 k l0 l1 0) else (some false)
theorem numnahlaw07_ints.mono_l : ∀ k, (∀ y0 y1 y2, LeO (numnahlaw07_ints.l0 k y0 y1 y2) (numnahlaw07_ints.l0 (k + 1) y0 y1 y2))
 | 0 => fun _ _ _ r h => by simp [numnahlaw07_ints.l0] at h
 | k + 1 => by
  have ih0 := numnahlaw07_ints.mono_l k
  ·intro y0 y1 y2
   unfold numnahlaw07_ints.l0
   repeat' first
   | (with_reducible exact ih0 _ _ _)
   | (with_reducible exact LeO.refl _)
   | (with_reducible exact LeO.none _)
   | (with_reducible refine LeO.ite ?_ ?_)
   | (with_reducible refine LeO.bind ?_ (fun _ => ?_))
   | exact ih0 _ _ _
   | exact LeO.none _
   | refine LeO.ite ?_ ?_
   | refine LeO.bind ?_ (fun _ => ?_)
theorem numnahlaw07_ints.mono : ∀ a0 a1 k, LeO (numnahlaw07_ints.f k a0 a1) (numnahlaw07_ints.f (k + 1) a0 a1) := by
 intro a0 a1 k
 have ih0 := numnahlaw07_ints.mono_l k
 unfold numnahlaw07_ints.f
 repeat' first
   | (with_reducible exact ih0 _ _ _)
   | (with_reducible exact LeO.refl _)
   | (with_reducible exact LeO.none _)
   | (with_reducible refine LeO.ite ?_ ?_)
   | (with_reducible refine LeO.bind ?_ (fun _ => ?_))
   | exact ih0 _ _ _
   | exact LeO.none _
   | refine LeO.ite ?_ ?_
   | refine LeO.bind ?_ (fun _ => ?_)
set_option maxHeartbeats 8000000 in
set_option maxRecDepth 100000 in
theorem numnahlaw07_ints.calls (k : Nat) (A0 : Option Addr) (c0 : Nat) (l0 : List Int) (A1 : Option Addr) (c1 : Nat) (l1 : List Int) (r : Bool) (w : World) (hr0 : Kd.C (Kd.int .i64) w A0 l0.length l0) (hc0 : l0.length ≤ c0) (hr1 : Kd.C (Kd.int .i64) w A1 l1.length l1) (hc1 : l1.length ≤ c1) (h : numnahlaw07_ints.f k l0 l1 = some r) :
  Calls Try.prog 46 #[.slice A0 l0.length c0, .slice A1 l1.length c1] w fun e w' => e = .returned (.bool r) ∧ Drawn0 w w' := by
 have HR0 := Aside0.mk hr0
 have HC0 := Aside0.mk hc0
 clear hr0 hc0
 have HR1 := Aside0.mk hr1
 have HC1 := Aside0.mk hc1
 clear hr1 hc1
 have H : (if (l0.length : Int) = (l1.length : Int) then (numnahlaw07_ints.l0 k l0 l1 0) else (some false)) = some r := h
 clear h
 by_cases c3 : (l0.length : Int) = (l1.length : Int)
 ·rw [if_pos c3] at H
  have c3b0 : ((l0.length : Int) == (l1.length : Int)) = true := beq_iff_eq.mpr c3
  have c3b1 : ((l0.length : Int) != (l1.length : Int)) = false := bne_eq_false_iff_eq.mpr c3
  have c3b2 : (l0.length == l1.length) = true := by first | simpa using c3 | (simp at c3 ⊢; omega)
  clear c3
  have H' := Aside0.mk H
  clear H
  go_enter Try.func46, Try.ntmps46
  go_wp2
  repeat (go_quiet (fail); try go_wp2)
  go_loopg [5] k (fun kq v5 w' => ∃ (x5_1 : Int), v5 = .int .i64 x5_1 ∧ Aside0 (numnahlaw07_ints.l0 kq l0 l1 x5_1 = some r) ∧ Aside0 (kq ≤ k) ∧ Drawn0 w w')
  case atStart => exact ⟨(0), (by first | rfl | (simp; done) | (simp [*]; done)), H', ⟨Nat.le_refl _⟩, by repeat (first | exact Drawn0.refl _ | apply Drawn0.step)⟩
  case round =>
   clear H'
   try clear c1
   try clear p2
   try clear c3
   try clear c3b0
   try clear c3b1
   try clear c3b2
   obtain ⟨x5_1, rfl, HA, HK1, ⟨m1, rfl⟩⟩ := hrel
   cases gk with
   | zero => exact absurd HA.out (by simp [numnahlaw07_ints.l0])
   | succ k1 =>
    have H := HA.out
    clear HA
    simp only [numnahlaw07_ints.l0] at H
    by_cases c4 : x5_1 < (l0.length : Int)
    ·rw [if_pos c4] at H
     have c4b0 : decide (x5_1 < (l0.length : Int)) = true := decide_eq_true c4
     clear c4
     by_cases c5 : 0 ≤ x5_1
     ·rw [if_pos c5] at H
      have c5b0 : decide (0 ≤ x5_1) = true := decide_eq_true c5
      clear c5
      by_cases c6 : x5_1 < (l1.length : Int)
      ·rw [if_pos c6] at H
       have c6b0 : decide (x5_1 < (l1.length : Int)) = true := decide_eq_true c6
       clear c6
       by_cases c7 : (rd l0 x5_1) = (rd l1 x5_1)
       ·rw [if_pos c7] at H
        have c7b0 : ((rd l0 x5_1) == (rd l1 x5_1)) = true := beq_iff_eq.mpr c7
        have c7b1 : ((rd l0 x5_1) != (rd l1 x5_1)) = false := bne_eq_false_iff_eq.mpr c7
        clear c7
        have H' := Aside0.mk H
        clear H
        have p308 : 0 ≤ (x5_1 : Int) := of_decide_eq_true (by first | (with_reducible assumption) | assumption)
        have q308 : x5_1 < (l0.length : Int) := of_decide_eq_true (by first | (with_reducible assumption) | assumption)
        obtain ⟨ad308, e308, hx308_0⟩ := Kd.at_int HR0.out x5_1 p308 q308
        cases e308
        replace p308 := eq_true p308
        replace q308 := eq_true q308
        have p309 : 0 ≤ (x5_1 : Int) := of_decide_eq_true (by first | (with_reducible assumption) | assumption)
        have q309 : x5_1 < (l1.length : Int) := of_decide_eq_true (by first | (with_reducible assumption) | assumption)
        obtain ⟨ad309, e309, hx309_0⟩ := Kd.at_int HR1.out x5_1 p309 q309
        cases e309
        replace p309 := eq_true p309
        replace q309 := eq_true q309
        go_wp2
        repeat (go_quiet (fail); try go_wp2)
        go_roundg k1
        case measure => have := HK1.out; omega
        case rel => exact ⟨(wrap64 (x5_1 + 1)), (by first | rfl | (simp; done) | (simp [*]; done)), H', ⟨by have := HK1.out; omega⟩, by repeat (first | exact Drawn0.refl _ | apply Drawn0.step)⟩
       ·rw [if_neg c7] at H
        have c7b0 : ((rd l0 x5_1) == (rd l1 x5_1)) = false := beq_eq_false_iff_ne.mpr c7
        have c7b1 : ((rd l0 x5_1) != (rd l1 x5_1)) = true := bne_iff_ne.mpr c7
        obtain rfl := Option.some.inj H
        have p308 : 0 ≤ (x5_1 : Int) := of_decide_eq_true (by first | (with_reducible assumption) | assumption)
        have q308 : x5_1 < (l0.length : Int) := of_decide_eq_true (by first | (with_reducible assumption) | assumption)
        obtain ⟨ad308, e308, hx308_0⟩ := Kd.at_int HR0.out x5_1 p308 q308
        cases e308
        replace p308 := eq_true p308
        replace q308 := eq_true q308
        have p309 : 0 ≤ (x5_1 : Int) := of_decide_eq_true (by first | (with_reducible assumption) | assumption)
        have q309 : x5_1 < (l1.length : Int) := of_decide_eq_true (by first | (with_reducible assumption) | assumption)
        obtain ⟨ad309, e309, hx309_0⟩ := Kd.at_int HR1.out x5_1 p309 q309
        cases e309
        replace p309 := eq_true p309
        replace q309 := eq_true q309
        go_wp2
        repeat (go_quiet (fail); try go_wp2)
        go_ret
        exact ⟨by first | rfl | (simp; done) | (simp [*]; done), by repeat (first | exact Drawn0.refl _ | apply Drawn0.step)⟩
      ·rw [if_neg c6] at H
       exact absurd H (by simp)
     ·rw [if_neg c5] at H
      exact absurd H (by simp)
    ·rw [if_neg c4] at H
     have c4b0 : decide (x5_1 < (l0.length : Int)) = false := decide_eq_false c4
     clear c4
     obtain rfl := Option.some.inj H
     go_wp2
     repeat (go_quiet (fail); try go_wp2)
     go_ret
     exact ⟨by first | rfl | (simp; done) | (simp [*]; done), by repeat (first | exact Drawn0.refl _ | apply Drawn0.step)⟩
 ·rw [if_neg c3] at H
  have c3b0 : ((l0.length : Int) == (l1.length : Int)) = false := beq_eq_false_iff_ne.mpr c3
  have c3b1 : ((l0.length : Int) != (l1.length : Int)) = true := bne_iff_ne.mpr c3
  have c3b2 : (l0.length == l1.length) = false := by first | simpa using c3 | (simp at c3 ⊢; omega)
  obtain rfl := Option.some.inj H
  go_enter Try.func46, Try.ntmps46
  go_wp2
  repeat (go_quiet (fail); try go_wp2)
  go_ret
  exact ⟨by first | rfl | (simp; done) | (simp [*]; done), by repeat (first | exact Drawn0.refl _ | apply Drawn0.step)⟩
end Go.Proofs.Ytjohcjfmlhihbaa.G

/- ### Xm -/
namespace Go.Proofs.Ytjohcjfmlhihbaa.G
open Go Go.RowKit Go.ChangeMaps
variable {P : Program} (w : World)
theorem run_check {k : TypeId} (hk : P.underlying k = some (.int .i64)) (em : Bool) (n : Nat) (j : Int) : (Instr.checkKey em (n + 1) k (.int .i64 j)).run P w = .ok () w := by
 simp [Instr.checkKey, run_underlying hk, Result.andThen]
theorem run_put {t k e : TypeId} (ht : P.underlying t = some (.map k e)) (hk : P.underlying k = some (.int .i64)) {b : Nat} {es : Array MapEntry} {clock : Nat} (hb : w.heap[b]? = some (.map es clock)) {j : Int} {val : Value}
  (hf : Instr.findNow (.int .i64) (.int .i64 j) es.toList 0 = some none) :
  (Instr.mapUpdate t (.map (some b)) (.int .i64 j) val).run P w = .ok () (setBlock w b (.map (es.push { key := .int .i64 j, val := val, born := clock }) (clock + 1))) := by
 simp [Instr.mapUpdate, run_underlying ht, MapKept.run_getObj_map hb, fun em => run_check w hk em 9999 j, run_underlying hk, Instr.findKey, hf, MapKept.run_setObj_map _ hb, Result.andThen, setBlock]
theorem run_look {t k e : TypeId} (ht : P.underlying t = some (.map k e)) (hk : P.underlying k = some (.int .i64)) {b : Nat} {es : Array MapEntry} {clock : Nat} (hb : w.heap[b]? = some (.map es clock)) {j : Int} {i : Nat} {v : Value}
  (hf : Instr.findNow (.int .i64) (.int .i64 j) es.toList 0 = some (some (i, v))) :
  (Instr.lookup t (.map (some b)) (.int .i64 j) true).run P w = .ok (.tuple #[v, .bool true]) w := by
 simp [Instr.lookup, run_underlying ht, MapKept.run_getObj_map hb, fun em => run_check w hk em 9999 j, run_underlying hk, Instr.findKey, hf, Result.andThen]
theorem run_look_no {t k e : TypeId} (ht : P.underlying t = some (.map k e)) (hk : P.underlying k = some (.int .i64)) {z : Value} (hz : (zeroValue e).run P w = .ok z w) {b : Nat} {es : Array MapEntry} {clock : Nat} (hb : w.heap[b]? = some (.map es clock)) {j : Int}
  (hf : Instr.findNow (.int .i64) (.int .i64 j) es.toList 0 = some none) :
  (Instr.lookup t (.map (some b)) (.int .i64 j) true).run P w = .ok (.tuple #[z, .bool false]) w := by
 simp [Instr.lookup, run_underlying ht, MapKept.run_getObj_map hb, fun em => run_check w hk em 9999 j, run_underlying hk, Instr.findKey, hf, hz, Result.andThen]
/-- One entry more, at the operation. -/
theorem insert_new {ops : Array Oper} {rest : List Oper} {o : Oper} {a : Act} {Q : Exit → Act → World → Prop} (hg : o.guard = none) (m x v : Operand) (t k e : TypeId) (hop : o.op = Op.insert t m x v)
  (ht : P.underlying t = some (.map k e)) (hk : P.underlying k = some (.int .i64)) (b : Nat) (es : Array MapEntry) (clock : Nat) (hm : a.eval m = .map (some b)) (hb : w.heap[b]? = some (.map es clock)) (j : Int) (val : Value) (hx : a.eval x = .int .i64 j) (hv : a.eval v = val)
  (hf : Instr.findNow (.int .i64) (.int .i64 j) es.toList 0 = some none)
  (hK : ∀ w', w'.heap[b]? = some (.map (es.push { key := .int .i64 j, val := val, born := clock }) (clock + 1)) → w.grownBy w' (some b) → wpList P ops Q rest (a.put o.dst undef) w') :
  wpList P ops Q (o :: rest) a w := by
 refine wpList_plain hg fun K' hK' => ?_
 unfold Oper.wp
 simp [execOp, hop, hm, hx, hv, run_put w ht hk hb hf, Result.andThen]
 refine hK' _ _ (hK _ (heap_setBlock_same hb _) ⟨rfl, rfl, rfl, by simp [setBlock], fun i _ hi => heap_setBlock_other hb _ (fun e => hi (by rw [e]))⟩)
/-- A new map, at the operation. -/
theorem map_event {ops : Array Oper} {rest : List Oper} {o : Oper} {a : Act} {Q : Exit → Act → World → Prop} {W : World} (hg : o.guard = none) (t : TypeId) (hop : o.op = Op.makeMap t none)
  (h : ∀ g, g = W.heap.size → ∀ w1, w1.heap[g]? = some (.map #[] 0) → Below W.heap.size W w1 → wpList P ops Q rest (a.put o.dst (.map (some g))) w1) : wpList P ops Q (o :: rest) a W := by
 refine wpList_plain hg fun K' hK' => ?_
 unfold Oper.wp
 have hr : (Instr.makeMap t none).run P W = .ok (.map (some W.heap.size)) (W.alloc (.map #[] 0)) := rfl
 simp [execOp, hop, hr, Result.andThen]
 exact hK' _ _ (h _ rfl _ (World.alloc_heap_new _ _) ((Below.refl _ _).alloc (Nat.le_refl _) _))
end Go.Proofs.Ytjohcjfmlhihbaa.G

/- ### Xp -/
namespace Go.Proofs.Ytjohcjfmlhihbaa.G
open Go.RowKit Go.Proofs.YtjohcjfmlhihbaaW.PrintWords Go.Proofs.YtjohcjfmlhihbaaW.PrintLast Go.Proofs.YtjohcjfmlhihbaaW.PrintMore
attribute [local go_sem] cond_true cond_false fld23_0 fld23_1 fld45_0 fld45_1 fld109_0 fld109_1 fld94_0 fld94_1 max2_int min2_int max_two min_two max_three min_three max_four min_four   -- for this text's walks alone
set_option linter.unusedVariables false
set_option linter.unusedSimpArgs false
def prop_1.f (k : Nat) (a0 est all : Int) : Option (Int × Int) := (shares_frac.f k (wrap64 (a0 * est)) all).bind fun bt137 => (some (bt137.1, bt137.2))
theorem prop_1.mono : ∀ a0 est all k, LeO (prop_1.f k a0 est all) (prop_1.f (k + 1) a0 est all) := by
 intro a0 est all k
 unfold prop_1.f
 repeat' first
   | (with_reducible exact shares_frac.mono _ _ _)
   | (with_reducible exact LeO.refl _)
   | (with_reducible exact LeO.none _)
   | (with_reducible refine LeO.ite ?_ ?_)
   | (with_reducible refine LeO.bind ?_ (fun _ => ?_))
   | exact shares_frac.mono _ _ _
   | exact LeO.none _
   | refine LeO.ite ?_ ?_
   | refine LeO.bind ?_ (fun _ => ?_)
set_option maxHeartbeats 8000000 in
set_option maxRecDepth 100000 in
theorem prop_1.calls (k : Nat) (a0 est all : Int) (r1 : Int) (r2 : Int) (w : World) (gbC gbA : Nat) (A : Option Addr) (c n : Nat) (BK0 : w.heap[gbC]? = some (.cells #[.slice A n c, .int .i64 est] 94 (0, 0))) (BK1 : w.heap[gbA]? = some (.cells #[.int .i64 all] 3 (0, 0))) (h : prop_1.f k a0 est all = some (r1, r2)) :
  Calls Try.prog 121 #[.int .i64 a0, .pointer (some ⟨gbC, 0, none⟩), .pointer (some ⟨gbA, 0, none⟩)] w fun e w' => e = .returned (.agg #[.int .i64 r1, .int .i64 r2]) ∧ Below w.heap.size w w' := by
 have hu23 := Try.underlying23
 have HB := Aside0.mk (Below.refl w.heap.size w)
 have BKC := Aside0.mk BK0
 have BKA := Aside0.mk BK1
 clear BK0 BK1
 have H : ((shares_frac.f k (wrap64 (a0 * est)) all).bind fun bt137 => (some (bt137.1, bt137.2))) = some (r1, r2) := h
 clear h
 replace H := Option.bind_eq_some_iff.mp H
 obtain ⟨⟨t137, t138⟩, A20, H⟩ := H
 replace H : (some (t137, t138)) = some (r1, r2) := H
 have A2 := Aside0.mk A20
 clear A20
 simp only [Option.some.injEq, Prod.mk.injEq] at H
 obtain ⟨rfl, rfl⟩ := H
 go_enter Try.func121, Try.ntmps121
 go_wp2_with (first | ((with_reducible refine gate_dst (N := 4) rfl ?_); refine box_event ?hg (N := 4) ?hd (cs := #[.int .i64 0, .int .i64 0]) (t := 23) ?hr ?_; (case hd => rfl); (case hg => rfl); (case hr => first | (go_simp; done) | (go_simp; rfl)); intro gb136 hg w3 hbox hb; have n0_ := Aside0.mk (below_step (by repeat (first | (with_reducible first | exact HB.out | apply below_alloc | apply pw_below_drewN | apply below_drew1) | exact HB.out)) hb); have n1_ := Aside0.mk (hbox); have n2_ := Aside0.mk ((by rw [hg]; exact (below_size (by repeat (first | (with_reducible first | exact HB.out | apply below_alloc | apply pw_below_drewN | apply below_drew1) | exact HB.out))) : w.heap.size ≤ gb136)); have n3_ := Aside0.mk ((by rw [hg]; exact (below_size (by repeat (first | (with_reducible first | exact HB.out | apply below_alloc | apply pw_below_drewN | apply below_drew1) | exact HB.out))) : w.heap.size ≤ gb136)); clear HB; have HB := n0_; have BK136 := n1_; have GW136 := n2_; have GE136 := n3_; clear n0_ n1_ n2_ n3_; have n4_ := Aside0.mk (blk_below (g := gbC) (o := .cells #[.slice A n c, .int .i64 est] 94 (0, 0)) BKC.out hb); have n5_ := Aside0.mk (blk_below (g := gbA) (o := .cells #[.int .i64 all] 3 (0, 0)) BKA.out hb); have hczC := (blk_cell n4_.out 1).trans rfl; have hczA := (blk_cell n5_.out 0).trans rfl; clear n4_ n5_; clear hb hbox hg) | ((with_reducible refine gate_callee (f := 117) rfl ?_); refine goesL_ (some 10) rfl rfl Try.func117 (by kernel_rfl) rfl #[.int .i64 (wrap64 (a0 * est)), .int .i64 all] rfl (by (try simp only [List.map_toArray, List.map_cons, List.map_nil]); first | done | rfl | (simp only [List.length_drop, List.length_take]; rfl)) ?_; (with_reducible refine (shares_frac.calls k (wrap64 (a0 * est)) all t137 t138 _ A2.out).mono ?_); rintro e w4 ⟨rfl, hb⟩; refine ⟨_, rfl, ?_⟩; have n0_ := Aside0.mk (blk_below (g := gb136) (o := .cells #[.int .i64 0, .int .i64 0] 23 (0, 0)) (by (with_reducible repeat (first | refine blk_drewN ?_ _ | refine blk_drew ?_ | refine blk_alloc ?_ _)); exact BK136.out) hb); have n1_ := Aside0.mk (below_step (by repeat (first | (with_reducible first | exact HB.out | apply below_alloc | apply pw_below_drewN | apply below_drew1 | refine below_set ?_ GE136.out) | exact HB.out)) hb); clear BK136; clear HB; have BK136 := n0_; have HB := n1_; clear n0_ n1_; (try clear hb); (try clear hb2); (try clear hk); (try clear hi); have hcz5_0 : w4.cell? ⟨gb136, 0, none⟩ = some (.int .i64 0) := (blk_cell BK136.out 0).trans rfl; have hcz5_1 : w4.cell? ⟨gb136, 1, none⟩ = some (.int .i64 0) := (blk_cell BK136.out 1).trans rfl; have hfz5_0 := blk_frozen BK136.out 0; have hfz5_1 := blk_frozen BK136.out 1))
 refine bodyPost_ret (results_cell_row rfl _ _ gb136 23 #[.int .i64 t137, .int .i64 t138] (0, 0) _ rfl (by (with_reducible repeat (first | refine blk_drewN ?_ _ | refine blk_drew ?_ | refine blk_alloc ?_ _)); refine blk_put (cs := #[.int .i64 t137, .int .i64 0]) ?_ 1 _ rfl; (with_reducible repeat (first | refine blk_drewN ?_ _ | refine blk_drew ?_ | refine blk_alloc ?_ _)); refine blk_put (cs := #[.int .i64 0, .int .i64 0]) ?_ 0 _ rfl; (with_reducible repeat (first | refine blk_drewN ?_ _ | refine blk_drew ?_ | refine blk_alloc ?_ _)); exact BK136.out) Try.underlying23 rfl (by kernel_rfl)) rfl ?_
 exact ⟨by first | rfl | (simp [errW_none, errW_some] <;> rfl) | (simp [*, errW_none, errW_some] <;> rfl), by repeat (first | (with_reducible first | exact HB.out | apply below_alloc | apply pw_below_drewN | apply below_drew1 | refine below_set ?_ GE136.out) | exact HB.out)⟩
def each_prop.l0 (est all : Int) : Nat → List (S23) → List Int → Int → Int → Option ((List (S23)))
 | 0, _, _, _, _ => none
 | k + 1, x5, x9, x10, x11 => if x11 < x10 then (if 0 ≤ x11 then (if x11 < (x9.length : Int) then ((prop_1.f k (rd x9 x11) est all).bind fun bt1611 => (if x5.length < 8796093022208 then (each_prop.l0 est all k (x5 ++ [(⟨bt1611.1, bt1611.2⟩ : S23)]) x9 x10 (wrap64 (x11 + 1))) else (none))) else (none)) else (none)) else (some x5)
def each_prop.f (est all : Int) (k : Nat) (l0_0 : List Int) (a0_1 : Int) : Option ((List (S23))) := each_prop.l0 est all k ([] : List (S23)) l0_0 (l0_0.length : Int) 0
theorem each_prop.mono_l (est all : Int) : ∀ k, (∀ y0 y1 y2 y3, LeO (each_prop.l0 est all k y0 y1 y2 y3) (each_prop.l0 est all (k + 1) y0 y1 y2 y3))
 | 0 => fun _ _ _ _ r h => by simp [each_prop.l0] at h
 | k + 1 => by
  have ih0 := each_prop.mono_l est all k
  ·intro y0 y1 y2 y3
   unfold each_prop.l0
   repeat' first
   | (with_reducible exact ih0 _ _ _ _)
   | (with_reducible exact prop_1.mono _ _ _ _)
   | (with_reducible exact LeO.refl _)
   | (with_reducible exact LeO.none _)
   | (with_reducible refine LeO.ite ?_ ?_)
   | (with_reducible refine LeO.bind ?_ (fun _ => ?_))
   | exact ih0 _ _ _ _
   | exact prop_1.mono _ _ _ _
   | exact LeO.none _
   | refine LeO.ite ?_ ?_
   | refine LeO.bind ?_ (fun _ => ?_)
theorem each_prop.mono (est all : Int) : ∀ a0 a1 k, LeO (each_prop.f est all k a0 a1) (each_prop.f est all (k + 1) a0 a1) := by
 intro a0 a1 k
 have ih0 := each_prop.mono_l est all k
 unfold each_prop.f
 repeat' first
   | (with_reducible exact ih0 _ _ _ _)
   | (with_reducible exact prop_1.mono _ _ _ _)
   | (with_reducible exact LeO.refl _)
   | (with_reducible exact LeO.none _)
   | (with_reducible refine LeO.ite ?_ ?_)
   | (with_reducible refine LeO.bind ?_ (fun _ => ?_))
   | exact ih0 _ _ _ _
   | exact prop_1.mono _ _ _ _
   | exact LeO.none _
   | refine LeO.ite ?_ ?_
   | refine LeO.bind ?_ (fun _ => ?_)
set_option maxHeartbeats 8000000 in
set_option maxRecDepth 100000 in
theorem each_prop.calls (est all : Int) (k : Nat) (A0_0 : Option Addr) (c0_0 : Nat) (l0_0 : List Int) (a0_1 : Int) (r : List (S23)) (w : World) (gbC gbA : Nat) (A : Option Addr) (c n : Nat) (BK0 : w.heap[gbC]? = some (.cells #[.slice A n c, .int .i64 est] 94 (0, 0))) (BK1 : w.heap[gbA]? = some (.cells #[.int .i64 all] 3 (0, 0))) (hr0_0 : Kd.C (Kd.int .i64) w A0_0 l0_0.length l0_0) (hc0_0 : l0_0.length ≤ c0_0) (h : each_prop.f est all k l0_0 a0_1 = some r) :
  Calls Try.prog 120 #[.agg #[.slice A0_0 l0_0.length c0_0, .int .i64 a0_1], .func (.func 121) #[] #[.pointer (some ⟨gbC, 0, none⟩), .pointer (some ⟨gbA, 0, none⟩)]] w fun e w' => ∃ v0_ : Value, e = .returned (v0_) ∧ Kd.R k23 23 w' w.heap.size (fun _ => True) v0_ r ∧ Below w.heap.size w w' := by
 have hu94 := Try.underlying94
 have BKC := Aside0.mk BK0
 have BKA := Aside0.mk BK1
 clear BK0 BK1
 have HR0_0 := Aside0.mk hr0_0
 have HC0_0 := Aside0.mk hc0_0
 clear hr0_0 hc0_0
 have HB := Aside0.mk (Below.refl w.heap.size w)
 have H : (each_prop.l0 est all k ([] : List (S23)) l0_0 (l0_0.length : Int) 0) = some r := h
 clear h
 have H' := Aside0.mk H
 clear H
 go_enter Try.func120, Try.ntmps120
 go_wp2_with (first | ((with_reducible refine gate_dst (N := 2) rfl ?_); refine box_event ?hg (N := 2) ?hd (cs := #[.slice A0_0 l0_0.length c0_0, .int .i64 a0_1]) (t := 94) ?hr ?_; (case hd => rfl); (case hg => rfl); (case hr => first | (go_simp; done) | (go_simp; rfl)); intro gb1609 hg w2 hbox hb; have n0_ := Aside0.mk (below_step (by repeat (first | (with_reducible first | exact HB.out | apply below_alloc | apply pw_below_drewN | apply below_drew1) | exact HB.out)) hb); have n1_ := Aside0.mk (hbox); have n2_ := Aside0.mk ((by rw [hg]; exact (below_size (by repeat (first | (with_reducible first | exact HB.out | apply below_alloc | apply pw_below_drewN | apply below_drew1) | exact HB.out))) : w.heap.size ≤ gb1609)); have n3_ := Aside0.mk ((by rw [hg]; exact (below_size (by repeat (first | (with_reducible first | exact HB.out | apply below_alloc | apply pw_below_drewN | apply below_drew1) | exact HB.out))) : w.heap.size ≤ gb1609)); clear HB; have HB := n0_; have BK1609 := n1_; have GW1609 := n2_; have GE1609 := n3_; clear n0_ n1_ n2_ n3_; clear hb hbox hg; have hcz3_0 : w2.cell? ⟨gb1609, 0, none⟩ = some (.slice A0_0 l0_0.length c0_0) := (blk_cell BK1609.out 0).trans rfl; have hcz3_1 : w2.cell? ⟨gb1609, 1, none⟩ = some (.int .i64 a0_1) := (blk_cell BK1609.out 1).trans rfl; have hfz3_0 := blk_frozen BK1609.out 0; have hfz3_1 := blk_frozen BK1609.out 1))
 go_loopg [5, 11] k (fun kq v5 v11 w' => ∃ (x5_1 : List (S23)) (x11_1 : Int), v11 = .int .i64 x11_1 ∧ Aside0 (each_prop.l0 est all kq x5_1 l0_0 (l0_0.length : Int) x11_1 = some r) ∧ Aside0 (kq ≤ k) ∧ Aside0 (Kd.R k23 23 w' w.heap.size (fun _ => True) v5 x5_1) ∧ Aside0 (w'.heap[gb1609]? = some (.cells #[(.slice A0_0 l0_0.length c0_0), .int .i64 a0_1] 94 (0, 0))) ∧ Aside0 (Below w.heap.size w w'))
 case atStart => exact ⟨(([] : List (S23))), (0), (by first | rfl | (simp; done) | (simp [*]; done)), H', ⟨Nat.le_refl _⟩, ⟨by first | exact Kd.R_nil _ _ _ _ _ | exact Kd.N_nil _ _ _ _ _ | exact Kd.V_nil _ _ _ _ _ | exact Kd.Q_nil _ _ _ _ _ | exact Kd.S_nil _ _ _ _ _⟩, ⟨by (with_reducible repeat (first | refine blk_drewN ?_ _ | refine blk_drew ?_ | refine blk_alloc ?_ _)); exact BK1609.out⟩, ⟨by repeat (first | (with_reducible first | exact HB.out | apply below_alloc | apply pw_below_drewN | apply below_drew1 | refine below_set ?_ GE1609.out) | exact HB.out)⟩⟩
 case round =>
  clear H'
  try clear c1
  try clear p2
  try clear hcz3_0
  try clear hcz3_1
  try clear hfz3_0
  try clear hfz3_1
  obtain ⟨x5_1, x11_1, rfl, HA, HK1, HO_5, BK1609, HB⟩ := hrel
  cases gk with
  | zero => exact absurd HA.out (by simp [each_prop.l0])
  | succ k1 =>
   have H := HA.out
   clear HA
   simp only [each_prop.l0] at H
   by_cases c4 : x11_1 < (l0_0.length : Int)
   ·rw [if_pos c4] at H
    have c4b0 : decide (x11_1 < (l0_0.length : Int)) = true := decide_eq_true c4
    clear c4
    by_cases c5 : 0 ≤ x11_1
    ·rw [if_pos c5] at H
     have c5b0 : decide (0 ≤ x11_1) = true := decide_eq_true c5
     clear c5
     by_cases c6 : x11_1 < (l0_0.length : Int)
     ·rw [if_pos c6] at H
      have c6b0 : decide (x11_1 < (l0_0.length : Int)) = true := decide_eq_true c6
      clear c6
      replace H := Option.bind_eq_some_iff.mp H
      obtain ⟨⟨t1611, t1612⟩, A70, H⟩ := H
      replace H : (if x5_1.length < 8796093022208 then (each_prop.l0 est all k1 (x5_1 ++ [(⟨t1611, t1612⟩ : S23)]) l0_0 (l0_0.length : Int) (wrap64 (x11_1 + 1))) else (none)) = some r := H
      have A7 := Aside0.mk A70
      clear A70
      by_cases c8 : x5_1.length < 8796093022208
      ·rw [if_pos c8] at H
       have LMc8 := Aside0.mk c8
       clear c8
       obtain ⟨y1613, hy1613⟩ : ∃ y_ : List (S23), y_ = (x5_1 ++ [(⟨t1611, t1612⟩ : S23)]) := ⟨_, rfl⟩
       replace H : (each_prop.l0 est all k1 y1613 l0_0 (l0_0.length : Int) (wrap64 (x11_1 + 1))) = some r := by first | (rw [hy1613]; with_reducible exact H) | (have H2_ := (Option.bind_some _ _).symm.trans H; rw [hy1613]; with_reducible exact H2_) | (have H2_ := (Option.bind_some _ _).symm.trans H; with_reducible exact H2_) | with_reducible exact H | (rw [hy1613]; exact H) | exact H
       have Ny1613 := Aside0.mk hy1613
       clear hy1613
       have H' := Aside0.mk H
       clear H
       have p1610 : 0 ≤ (x11_1 : Int) := of_decide_eq_true (by first | (with_reducible assumption) | assumption)
       have q1610 : x11_1 < (l0_0.length : Int) := of_decide_eq_true (by first | (with_reducible assumption) | assumption)
       obtain ⟨ad1610, e1610, hx1610_0⟩ := Kd.at_int HR0_0.out x11_1 p1610 q1610
       cases e1610
       replace hx1610_0 := (HB.out.cell (World.block_lt_of_cell? w _ hx1610_0)).trans hx1610_0
       replace p1610 := eq_true p1610
       replace q1610 := eq_true q1610
       go_wp2_with (first | (go_at_call 121; (with_reducible refine (prop_1.calls k1 (rd l0_0 x11_1) est all t1611 t1612 _ gbC gbA A c n (blk_below (g := gbC) (o := .cells #[.slice A n c, .int .i64 est] 94 (0, 0)) BKC.out (by repeat (first | (with_reducible first | exact HB.out | apply below_alloc | apply pw_below_drewN | apply below_drew1 | refine below_set ?_ GE1609.out) | exact HB.out))) (blk_below (g := gbA) (o := .cells #[.int .i64 all] 3 (0, 0)) BKA.out (by repeat (first | (with_reducible first | exact HB.out | apply below_alloc | apply pw_below_drewN | apply below_drew1 | refine below_set ?_ GE1609.out) | exact HB.out))) A7.out).mono ?_); rintro e w9 ⟨rfl, hb⟩; have n0_ := Aside0.mk (Kd.R_below (by (with_reducible repeat (first | apply Kd.R_alloc | apply Kd.R_drewN | apply Kd.R_drew)); exact HO_5.out) hb); have n1_ := Aside0.mk (blk_below (g := gb1609) (o := .cells #[.slice (some ad1610) l0_0.length c0_0, .int .i64 a0_1] 94 (0, 0)) (by (with_reducible repeat (first | refine blk_drewN ?_ _ | refine blk_drew ?_ | refine blk_alloc ?_ _)); exact BK1609.out) hb); have n2_ := Aside0.mk (below_step (by repeat (first | (with_reducible first | exact HB.out | apply below_alloc | apply pw_below_drewN | apply below_drew1 | refine below_set ?_ GE1609.out) | exact HB.out)) hb); clear HO_5; clear BK1609; clear HB; have HO_5 := n0_; have BK1609 := n1_; have HB := n2_; clear n0_ n1_ n2_; (try clear hb); (try clear hb2); (try clear hk); (try clear hi)) | ((with_reducible refine gate_builtin (b := .append) (xs := #[.tmp 15, .tmp 19]) rfl ?_); at_builtin; refine Kd.R_append k23 (w0 := w) w.heap.size rfl (.tmp 15) (.tmp 19) 35 23 (.agg #[(.int .i64 0), (.int .i64 0)]) 16 rfl Try.underlying35 info23 rfl (by decide) (by omega) u5 x5_1 (⟨t1611, t1612⟩ : S23) [.int .i64 t1611, .int .i64 t1612] (fun _ => True) (fun _ => False) rfl rfl ?aP (fun _ hk => hk.elim) ?aF ?aO ?aB ?aS ?aL ?_; (case aP => exact k23_mkM _ _ _ (⟨t1611, t1612⟩ : S23)); (case aB => exact (by repeat (first | (with_reducible first | exact HB.out | apply below_alloc | apply pw_below_drewN | apply below_drew1 | refine below_set ?_ GE1609.out) | exact HB.out))); (case aF => exact (fun _ _ => trivial)); (case aO => exact (by (with_reducible repeat (first | apply Kd.R_alloc | apply Kd.R_drewN | apply Kd.R_drew)); exact HO_5.out)); (case aS => exact (below_size (by repeat (first | (with_reducible first | exact HB.out | apply below_alloc | apply pw_below_drewN | apply below_drew1 | refine below_set ?_ GE1609.out) | exact HB.out)))); (case aL => have := LMc8.out; omega); intro v1614 w10 ho hb hg hat; rw [← Ny1613.out] at ho; have n0_ := Aside0.mk (blk_grown (g := gb1609) (o := .cells #[.slice (some ad1610) l0_0.length c0_0, .int .i64 a0_1] 94 (0, 0)) (by (with_reducible repeat (first | refine blk_drewN ?_ _ | refine blk_drew ?_ | refine blk_alloc ?_ _)); exact BK1609.out) hg (Kd.R_ne HO_5.out BK1609.out (by decide))); have n1_ := Aside0.mk (hb); have n2_ := Aside0.mk (ho); clear BK1609; clear HB; clear HO_5; have BK1609 := n0_; have HB := n1_; have HO1615 := n2_; clear n0_ n1_ n2_; clear ho hb hg hat))
       go_roundg k1
       case measure => have := HK1.out; omega
       case rel => exact ⟨(y1613), (wrap64 (x11_1 + 1)), (by first | rfl | (simp; done) | (simp [*]; done)), H', ⟨by have := HK1.out; omega⟩, ⟨by (with_reducible repeat (first | apply Kd.R_alloc | apply Kd.R_drewN | apply Kd.R_drew)); exact HO1615.out⟩, ⟨by (with_reducible repeat (first | refine blk_drewN ?_ _ | refine blk_drew ?_ | refine blk_alloc ?_ _)); exact BK1609.out⟩, ⟨by repeat (first | (with_reducible first | exact HB.out | apply below_alloc | apply pw_below_drewN | apply below_drew1 | refine below_set ?_ GE1609.out) | exact HB.out)⟩⟩
      ·rw [if_neg c8] at H
       exact absurd H (by simp)
     ·rw [if_neg c6] at H
      exact absurd H (by simp)
    ·rw [if_neg c5] at H
     exact absurd H (by simp)
   ·rw [if_neg c4] at H
    have c4b0 : decide (x11_1 < (l0_0.length : Int)) = false := decide_eq_false c4
    clear c4
    obtain rfl := Option.some.inj H
    go_wp2
    go_ret
    exact ⟨_, by first | rfl | (simp [errW_none, errW_some] <;> rfl) | (simp [*, errW_none, errW_some] <;> rfl), by (with_reducible repeat (first | apply Kd.R_alloc | apply Kd.R_drewN | apply Kd.R_drew)); exact HO_5.out, by repeat (first | (with_reducible first | exact HB.out | apply below_alloc | apply pw_below_drewN | apply below_drew1 | refine below_set ?_ GE1609.out) | exact HB.out)⟩
def shares_claims_proportional.f (k : Nat) (l0_0 : List Int) (a0_1 : Int) : Option (List (S23)) := (shares_total.f k l0_0).bind fun t => each_prop.f a0_1 (mx 1 t) k l0_0 a0_1
theorem shares_claims_proportional.mono : ∀ a0 a1 k, LeO (shares_claims_proportional.f k a0 a1) (shares_claims_proportional.f (k + 1) a0 a1) := by
 intro a0 a1 k
 unfold shares_claims_proportional.f
 exact LeO.bind (shares_total.mono _ _) (fun _ => each_prop.mono _ _ _ _ _)
set_option maxHeartbeats 8000000 in
set_option maxRecDepth 100000 in
theorem shares_claims_proportional.calls (k : Nat) (A0_0 : Option Addr) (c0_0 : Nat) (l0_0 : List Int) (a0_1 : Int) (r : List (S23)) (w : World) (hr0_0 : Kd.C (Kd.int .i64) w A0_0 l0_0.length l0_0) (hc0_0 : l0_0.length ≤ c0_0) (h : shares_claims_proportional.f k l0_0 a0_1 = some r) :
  Calls Try.prog 97 #[.agg #[.slice A0_0 l0_0.length c0_0, .int .i64 a0_1]] w fun e w' => ∃ v0_ : Value, e = .returned (v0_) ∧ Kd.R k23 23 w' w.heap.size (fun _ => True) v0_ r ∧ Below w.heap.size w w' := by
 have hu94 := Try.underlying94
 have HR0 := Aside0.mk hr0_0
 have HC0 := Aside0.mk hc0_0
 clear hr0_0 hc0_0
 have HB := Aside0.mk (Below.refl w.heap.size w)
 unfold shares_claims_proportional.f at h
 obtain ⟨t, h1, h2⟩ := Option.bind_eq_some_iff.1 h
 have A1 := Aside0.mk h1
 have A2 := Aside0.mk h2
 clear h h1 h2
 go_enter Try.func97, Try.ntmps97
 go_wp2_with (first | ((with_reducible refine gate_dst (N := 1) rfl ?_); refine box_event ?hg (N := 1) ?hd (cs := #[.slice A0_0 l0_0.length c0_0, .int .i64 a0_1]) (t := 94) ?hr ?_; (case hd => rfl); (case hg => rfl); (case hr => first | (go_simp; done) | (go_simp; rfl)); intro gbC hg w2 hbox hb; have n0_ := Aside0.mk (below_step HB.out hb); have n1_ := Aside0.mk hbox; clear HB; have HB := n0_; have BKC := n1_; clear n0_ n1_; clear hb hbox hg; have hczC := (blk_cell BKC.out 0).trans rfl))
 refine (shares_total.calls k A0_0 c0_0 l0_0 t _ (Kd.C_below HR0.out HB.out) HC0.out A1.out).mono ?_
 rintro e w3 ⟨rfl, ⟨n3, rfl⟩⟩
 clear hczC
 have HB3 := Aside0.mk (pw_below_drewN HB.out n3)
 have BKC3 := Aside0.mk (blk_drewN BKC.out n3)
 clear HB BKC
 by_cases hm : 1 < t
 all_goals
  go_wp2_with (first | ((with_reducible refine gate_dst (N := 3) rfl ?_); refine box_event ?hg (N := 3) ?hd (cs := #[.int .i64 0]) (t := 3) ?hr ?_; (case hd => rfl); (case hg => rfl); (case hr => first | (go_simp; done) | (go_simp; rfl)); intro gbA hg w4 hbox hb; have n0_ := Aside0.mk (below_step HB3.out hb); have n1_ := Aside0.mk hbox; have n2_ := Aside0.mk (blk_below (g := gbC) (o := .cells #[.slice A0_0 l0_0.length c0_0, .int .i64 a0_1] 94 (0, 0)) BKC3.out hb); have n3_ := Aside0.mk (by rw [hg]; exact HB3.out.size : w.heap.size ≤ gbA); have n4_ := Aside0.mk (by rw [hg]; exact Nat.ne_of_gt (blk_lt BKC3.out) : gbA ≠ gbC); clear HB3 BKC3; have HB := n0_; have BKA := n1_; have BKC := n2_; have GEA := n3_; have NEA := n4_; clear n0_ n1_ n2_ n3_ n4_; clear hb hbox hg; have hczA := (blk_cell BKA.out 0).trans rfl; have hfzA := blk_frozen BKA.out 0; have hczC := (blk_cell BKC.out 0).trans rfl; have hczC1 := (blk_cell BKC.out 1).trans rfl; have hne := NEA.out))
  first
   | (have hx : mx 1 t = t := by unfold mx; rw [if_pos (by first | exact hm | assumption | omega)])
   | (have hx : mx 1 t = 1 := by unfold mx; rw [if_neg (by first | exact hm | assumption | omega)])
  have A3 := A2.out
  rw [hx] at A3
  clear hx hczA hfzA hczC hczC1 hne
  refine (each_prop.calls a0_1 _ k A0_0 c0_0 l0_0 a0_1 r _ gbC gbA A0_0 c0_0 l0_0.length (blk_far BKC.out (by exact fun e => NEA.out e.symm) _) (blk_put BKA.out 0 _ rfl) (Kd.C_below HR0.out (below_set HB.out GEA.out)) HC0.out A3).mono ?_
  rintro e w5 ⟨v, rfl, hr, hb⟩
  have HR5 := Aside0.mk (Kd.R_lower hr (below_set (j := 0) HB.out GEA.out).size)
  have HB5 := Aside0.mk (below_step (below_set HB.out GEA.out) hb)
  clear hr hb
  go_wp2
  go_ret
  exact ⟨_, rfl, HR5.out, HB5.out⟩
end Go.Proofs.Ytjohcjfmlhihbaa.G

/- ### X62000 -/
namespace Go.Proofs.Ytjohcjfmlhihbaa.G
open Go Go.RowKit Go.Shelf Go.Proofs.Ytjohcjfmlhihbaa.H Go.Proofs.YtjohcjfmlhihbaaW.PrintWords
attribute [local go_sem] Oper.semAt_some wide_fn
def newClaimsR.f (k : Nat) (l0 : List Int) (a1 : Int) : Option Bool := (shares_newClaims.f k l0 a1).map fun x => x.2.2
theorem newClaimsR.mono : ∀ l0 a1 k, LeO (newClaimsR.f k l0 a1) (newClaimsR.f (k + 1) l0 a1) := by
 intro l0 a1 k r h
 unfold newClaimsR.f at h ⊢
 obtain ⟨x, hx, rfl⟩ := Option.map_eq_some_iff.1 h
 rw [shares_newClaims.mono _ _ _ x hx]
 rfl
theorem newClaimsR.parts {k : Nat} {l0 : List Int} {a1 : Int} {r : Bool} (h : newClaimsR.f k l0 a1 = some r) :
  (shares_areClaims.f l0 = some false ∧ r = false) ∨ (shares_areClaims.f l0 = some true ∧ ∃ t, shares_total.f k l0 = some t ∧ r = decide (0 ≤ a1 ∧ a1 ≤ t)) := by
 unfold newClaimsR.f shares_newClaims.f at h
 obtain ⟨x, hx, rfl⟩ := Option.map_eq_some_iff.1 h
 obtain ⟨b, hb, hx⟩ := Option.bind_eq_some_iff.1 hx
 cases b with
 | false =>
  rw [if_neg (by decide)] at hx
  obtain rfl := Option.some.inj hx
  exact .inl ⟨hb, rfl⟩
 | true =>
  rw [if_pos rfl] at hx
  obtain ⟨t, ht, hx⟩ := Option.bind_eq_some_iff.1 hx
  obtain ⟨q, hq, hx⟩ := Option.bind_eq_some_iff.1 hx
  obtain rfl := Option.some.inj hx
  refine .inr ⟨hb, t, ht, ?_⟩
  unfold shares_within.f at hq
  by_cases g : a1 ≥ 0
  ·rw [if_pos g] at hq
   obtain rfl := Option.some.inj hq
   show decide (a1 ≤ t) = decide (0 ≤ a1 ∧ a1 ≤ t)
   rw [Bool.eq_iff_iff, decide_eq_true_iff, decide_eq_true_iff]
   exact ⟨fun k => ⟨g, k⟩, fun k => k.2⟩
  ·rw [if_neg g] at hq
   obtain rfl := Option.some.inj hq
   show false = decide (0 ≤ a1 ∧ a1 ≤ t)
   rw [eq_comm, decide_eq_false_iff_not]
   exact fun k => g k.1
set_option maxHeartbeats 2000000 in
theorem newClaimsR.calls (k : Nat) (A0 : Option Addr) (c0 : Nat) (l0 : List Int) (a1 : Int) (r : Bool) (w : World) (hr0 : Kd.C (Kd.int .i64) w A0 l0.length l0) (hc0 : l0.length ≤ c0) (h : newClaimsR.f k l0 a1 = some r) :
  Calls Try.prog 62 #[.slice A0 l0.length c0, .int .i64 a1] w fun e w' => e = .returned (.tuple #[.agg #[.slice A0 l0.length c0, .int .i64 a1], .bool r]) ∧ Below w.heap.size w w' := by
 refine (callsIn_wide (n := 9)).1 ?_
 refine callsIn_of_wp Try.func62 rfl trivial ?_
 simp only [Try.ntmps62, List.size_toArray, List.length_cons, List.length_nil, Nat.reduceAdd, Nat.reduceSub, Array.replicate_succ, Array.replicate_zero, List.push_toArray, List.append_toArray, List.nil_append, List.cons_append]
 have HL := Lib.hid (Kd.C_alloc hr0 (.cells #[.slice none 0 0, .int .i64 0] 94))
 obtain ⟨a, b, c⟩ := lay1 w (.cells #[.slice none 0 0, .int .i64 0] 94)
 have HA := Lib.hid a
 have HS := Lib.hid b
 have HB := Lib.hid c
 have HH := Lib.hid (newClaimsR.parts h)
 clear h hr0 a b c
 gi_wp2_with fail
 rcases HH.out with ⟨h1, rfl⟩ | ⟨h1, t, h2, rfl⟩
 ·refine (callsIn_wide.2 (shares_areClaims.calls A0 c0 l0 false _ HL.out hc0 h1)).mono ?_
  rintro e w1 ⟨rfl, hb⟩
  have hc := (hb.block _ (by rw [HS.out]; omega)).trans HA.out
  have HC := Lib.hid hc
  have k0 := (blk_cell hc 0).trans rfl
  have k1 := (blk_cell hc 1).trans rfl
  have f0 := blk_frozen hc 0
  have f1 := blk_frozen hc 1
  have HB1 := Lib.hid (HB.out.trans (hb.mono HB.out.size))
  clear hb h1 hc
  gi_wp2_with fail
  refine bodyPost_ret (results_ct rfl _ _ w.heap.size 94 #[.slice A0 l0.length c0, .int .i64 a1] (0, 0) _ rfl (blk_put (blk_put HC.out 0 _ rfl) 1 _ rfl) Try.underlying94 rfl (by kernel_rfl)) rfl ⟨rfl, below_set (below_set HB1.out (Nat.le_refl _)) (Nat.le_refl _)⟩
 ·refine (callsIn_wide.2 (shares_areClaims.calls A0 c0 l0 true _ HL.out hc0 h1)).mono ?_
  rintro e w1 ⟨rfl, hb⟩
  have hc := (hb.block _ (by rw [HS.out]; omega)).trans HA.out
  have HC := Lib.hid hc
  have k0 := (blk_cell hc 0).trans rfl
  have k1 := (blk_cell hc 1).trans rfl
  have f0 := blk_frozen hc 0
  have f1 := blk_frozen hc 1
  have HL1 := Lib.hid (Kd.C_below HL.out hb)
  have HB1 := Lib.hid (HB.out.trans (hb.mono HB.out.size))
  clear hb h1 hc
  gi_wp2_with fail
  refine (callsIn_wide.2 (shares_total.calls k A0 c0 l0 t _ HL1.out hc0 h2)).mono ?_
  rintro e w2 ⟨rfl, ⟨n2, rfl⟩⟩
  gi_wp2_with fail
  refine (callsIn_wide.2 (within_val a1 0 t _)).mono ?_
  rintro e w3 ⟨rfl, ⟨n3, rfl⟩⟩
  obtain ⟨q, hq⟩ : ∃ q, decide (0 ≤ a1 ∧ a1 ≤ t) = q := ⟨_, rfl⟩
  rw [hq]
  have HQ := Lib.hid hq
  clear hq
  gi_wp2_with fail
  exact bodyPost_ret (results_ct rfl _ _ w.heap.size 94 #[.slice A0 l0.length c0, .int .i64 a1] (0, 0) _ rfl (blk_put (blk_put (blk_drewN HC.out _) 0 _ rfl) 1 _ rfl) Try.underlying94 rfl (by kernel_rfl)) rfl ⟨by rw [HQ.out]; rfl, below_set (below_set (below_drewN HB1.out _) (Nat.le_refl _)) (Nat.le_refl _)⟩
end Go.Proofs.Ytjohcjfmlhihbaa.G

/- ### F120064 -/
namespace Go.Proofs.Ytjohcjfmlhihbaa.G
open Go.RowKit Go.Proofs.YtjohcjfmlhihbaaW.PrintWords Go.Proofs.YtjohcjfmlhihbaaW.PrintLast Go.Proofs.YtjohcjfmlhihbaaW.PrintMore
attribute [local go_sem] cond_true cond_false fld23_0 fld23_1 fld45_0 fld45_1 fld109_0 fld109_1 fld94_0 fld94_1 max2_int min2_int max_two min_two max_three min_three max_four min_four   -- for this text's walks alone
set_option linter.unusedVariables false
set_option linter.unusedSimpArgs false
def each_whole.l0 : Nat → List (S23) → List Int → Int → Int → Option ((List (S23)))
 | 0, _, _, _, _ => none
 | k + 1, x5, x9, x10, x11 => if x11 < x10 then (if 0 ≤ x11 then (if x11 < (x9.length : Int) then ((shares_whole.f (rd x9 x11)).bind fun bt1576 => (if x5.length < 8796093022208 then (each_whole.l0 k (x5 ++ [(⟨bt1576.1, bt1576.2⟩ : S23)]) x9 x10 (wrap64 (x11 + 1))) else (none))) else (none)) else (none)) else (some x5)
def each_whole.f (k : Nat) (l0_0 : List Int) (a0_1 : Int) : Option ((List (S23))) := each_whole.l0 k ([] : List (S23)) l0_0 (l0_0.length : Int) 0
theorem each_whole.mono_l : ∀ k, (∀ y0 y1 y2 y3, LeO (each_whole.l0 k y0 y1 y2 y3) (each_whole.l0 (k + 1) y0 y1 y2 y3))
 | 0 => fun _ _ _ _ r h => by simp [each_whole.l0] at h
 | k + 1 => by
  have ih0 := each_whole.mono_l k
  ·intro y0 y1 y2 y3
   unfold each_whole.l0
   repeat' first
   | (with_reducible exact ih0 _ _ _ _)
   | (with_reducible exact LeO.refl _)
   | (with_reducible exact LeO.none _)
   | (with_reducible refine LeO.ite ?_ ?_)
   | (with_reducible refine LeO.bind ?_ (fun _ => ?_))
   | exact ih0 _ _ _ _
   | exact LeO.none _
   | refine LeO.ite ?_ ?_
   | refine LeO.bind ?_ (fun _ => ?_)
theorem each_whole.mono : ∀ a0 a1 k, LeO (each_whole.f k a0 a1) (each_whole.f (k + 1) a0 a1) := by
 intro a0 a1 k
 have ih0 := each_whole.mono_l k
 unfold each_whole.f
 repeat' first
   | (with_reducible exact ih0 _ _ _ _)
   | (with_reducible exact LeO.refl _)
   | (with_reducible exact LeO.none _)
   | (with_reducible refine LeO.ite ?_ ?_)
   | (with_reducible refine LeO.bind ?_ (fun _ => ?_))
   | exact ih0 _ _ _ _
   | exact LeO.none _
   | refine LeO.ite ?_ ?_
   | refine LeO.bind ?_ (fun _ => ?_)
set_option maxHeartbeats 8000000 in
set_option maxRecDepth 100000 in
theorem each_whole.calls (k : Nat) (A0_0 : Option Addr) (c0_0 : Nat) (l0_0 : List Int) (a0_1 : Int) (r : List (S23)) (w : World) (hr0_0 : Kd.C (Kd.int .i64) w A0_0 l0_0.length l0_0) (hc0_0 : l0_0.length ≤ c0_0) (h : each_whole.f k l0_0 a0_1 = some r) :
  Calls Try.prog 120 #[.agg #[.slice A0_0 l0_0.length c0_0, .int .i64 a0_1], .func (.func 64) #[] #[]] w fun e w' => ∃ v0_ : Value, e = .returned (v0_) ∧ Kd.R k23 23 w' w.heap.size (fun _ => True) v0_ r ∧ Below w.heap.size w w' := by
 have hu94 := Try.underlying94
 have HR0_0 := Aside0.mk hr0_0
 have HC0_0 := Aside0.mk hc0_0
 clear hr0_0 hc0_0
 have HB := Aside0.mk (Below.refl w.heap.size w)
 have H : (each_whole.l0 k ([] : List (S23)) l0_0 (l0_0.length : Int) 0) = some r := h
 clear h
 have H' := Aside0.mk H
 clear H
 go_enter Try.func120, Try.ntmps120
 go_wp2_with (first | ((with_reducible refine gate_dst (N := 2) rfl ?_); refine box_event ?hg (N := 2) ?hd (cs := #[.slice A0_0 l0_0.length c0_0, .int .i64 a0_1]) (t := 94) ?hr ?_; (case hd => rfl); (case hg => rfl); (case hr => first | (go_simp; done) | (go_simp; rfl)); intro gb1574 hg w2 hbox hb; have n0_ := Aside0.mk (below_step (by repeat (first | (with_reducible first | exact HB.out | apply below_alloc | apply pw_below_drewN | apply below_drew1) | exact HB.out)) hb); have n1_ := Aside0.mk (hbox); have n2_ := Aside0.mk ((by rw [hg]; exact (below_size (by repeat (first | (with_reducible first | exact HB.out | apply below_alloc | apply pw_below_drewN | apply below_drew1) | exact HB.out))) : w.heap.size ≤ gb1574)); have n3_ := Aside0.mk ((by rw [hg]; exact (below_size (by repeat (first | (with_reducible first | exact HB.out | apply below_alloc | apply pw_below_drewN | apply below_drew1) | exact HB.out))) : w.heap.size ≤ gb1574)); clear HB; have HB := n0_; have BK1574 := n1_; have GW1574 := n2_; have GE1574 := n3_; clear n0_ n1_ n2_ n3_; clear hb hbox hg; have hcz3_0 : w2.cell? ⟨gb1574, 0, none⟩ = some (.slice A0_0 l0_0.length c0_0) := (blk_cell BK1574.out 0).trans rfl; have hcz3_1 : w2.cell? ⟨gb1574, 1, none⟩ = some (.int .i64 a0_1) := (blk_cell BK1574.out 1).trans rfl; have hfz3_0 := blk_frozen BK1574.out 0; have hfz3_1 := blk_frozen BK1574.out 1))
 go_loopg [5, 11] k (fun kq v5 v11 w' => ∃ (x5_1 : List (S23)) (x11_1 : Int), v11 = .int .i64 x11_1 ∧ Aside0 (each_whole.l0 kq x5_1 l0_0 (l0_0.length : Int) x11_1 = some r) ∧ Aside0 (kq ≤ k) ∧ Aside0 (Kd.R k23 23 w' w.heap.size (fun _ => True) v5 x5_1) ∧ Aside0 (w'.heap[gb1574]? = some (.cells #[(.slice A0_0 l0_0.length c0_0), .int .i64 a0_1] 94 (0, 0))) ∧ Aside0 (Below w.heap.size w w'))
 case atStart => exact ⟨(([] : List (S23))), (0), (by first | rfl | (simp; done) | (simp [*]; done)), H', ⟨Nat.le_refl _⟩, ⟨by first | exact Kd.R_nil _ _ _ _ _ | exact Kd.N_nil _ _ _ _ _ | exact Kd.V_nil _ _ _ _ _ | exact Kd.Q_nil _ _ _ _ _ | exact Kd.S_nil _ _ _ _ _⟩, ⟨by (with_reducible repeat (first | refine blk_drewN ?_ _ | refine blk_drew ?_ | refine blk_alloc ?_ _)); exact BK1574.out⟩, ⟨by repeat (first | (with_reducible first | exact HB.out | apply below_alloc | apply pw_below_drewN | apply below_drew1 | refine below_set ?_ GE1574.out) | exact HB.out)⟩⟩
 case round =>
  clear H'
  try clear c1
  try clear p2
  try clear hcz3_0
  try clear hcz3_1
  try clear hfz3_0
  try clear hfz3_1
  obtain ⟨x5_1, x11_1, rfl, HA, HK1, HO_5, BK1574, HB⟩ := hrel
  cases gk with
  | zero => exact absurd HA.out (by simp [each_whole.l0])
  | succ k1 =>
   have H := HA.out
   clear HA
   simp only [each_whole.l0] at H
   by_cases c4 : x11_1 < (l0_0.length : Int)
   ·rw [if_pos c4] at H
    have c4b0 : decide (x11_1 < (l0_0.length : Int)) = true := decide_eq_true c4
    clear c4
    by_cases c5 : 0 ≤ x11_1
    ·rw [if_pos c5] at H
     have c5b0 : decide (0 ≤ x11_1) = true := decide_eq_true c5
     clear c5
     by_cases c6 : x11_1 < (l0_0.length : Int)
     ·rw [if_pos c6] at H
      have c6b0 : decide (x11_1 < (l0_0.length : Int)) = true := decide_eq_true c6
      clear c6
      replace H := Option.bind_eq_some_iff.mp H
      obtain ⟨⟨t1576, t1577⟩, A70, H⟩ := H
      replace H : (if x5_1.length < 8796093022208 then (each_whole.l0 k1 (x5_1 ++ [(⟨t1576, t1577⟩ : S23)]) l0_0 (l0_0.length : Int) (wrap64 (x11_1 + 1))) else (none)) = some r := H
      have A7 := Aside0.mk A70
      clear A70
      by_cases c8 : x5_1.length < 8796093022208
      ·rw [if_pos c8] at H
       have LMc8 := Aside0.mk c8
       clear c8
       obtain ⟨y1578, hy1578⟩ : ∃ y_ : List (S23), y_ = (x5_1 ++ [(⟨t1576, t1577⟩ : S23)]) := ⟨_, rfl⟩
       replace H : (each_whole.l0 k1 y1578 l0_0 (l0_0.length : Int) (wrap64 (x11_1 + 1))) = some r := by first | (rw [hy1578]; with_reducible exact H) | (have H2_ := (Option.bind_some _ _).symm.trans H; rw [hy1578]; with_reducible exact H2_) | (have H2_ := (Option.bind_some _ _).symm.trans H; with_reducible exact H2_) | with_reducible exact H | (rw [hy1578]; exact H) | exact H
       have Ny1578 := Aside0.mk hy1578
       clear hy1578
       have H' := Aside0.mk H
       clear H
       have p1575 : 0 ≤ (x11_1 : Int) := of_decide_eq_true (by first | (with_reducible assumption) | assumption)
       have q1575 : x11_1 < (l0_0.length : Int) := of_decide_eq_true (by first | (with_reducible assumption) | assumption)
       obtain ⟨ad1575, e1575, hx1575_0⟩ := Kd.at_int HR0_0.out x11_1 p1575 q1575
       cases e1575
       replace hx1575_0 := (HB.out.cell (World.block_lt_of_cell? w _ hx1575_0)).trans hx1575_0
       replace p1575 := eq_true p1575
       replace q1575 := eq_true q1575
       go_wp2_with (first | (go_at_call 64; (with_reducible refine (shares_whole.calls (rd l0_0 x11_1) t1576 t1577 _ A7.out).mono ?_); rintro e w9 ⟨rfl, hb⟩; have n0_ := Aside0.mk (Kd.R_below (by (with_reducible repeat (first | apply Kd.R_alloc | apply Kd.R_drewN | apply Kd.R_drew)); exact HO_5.out) hb); have n1_ := Aside0.mk (blk_below (g := gb1574) (o := .cells #[.slice (some ad1575) l0_0.length c0_0, .int .i64 a0_1] 94 (0, 0)) (by (with_reducible repeat (first | refine blk_drewN ?_ _ | refine blk_drew ?_ | refine blk_alloc ?_ _)); exact BK1574.out) hb); have n2_ := Aside0.mk (below_step (by repeat (first | (with_reducible first | exact HB.out | apply below_alloc | apply pw_below_drewN | apply below_drew1 | refine below_set ?_ GE1574.out) | exact HB.out)) hb); clear HO_5; clear BK1574; clear HB; have HO_5 := n0_; have BK1574 := n1_; have HB := n2_; clear n0_ n1_ n2_; (try clear hb); (try clear hb2); (try clear hk); (try clear hi)) | ((with_reducible refine gate_builtin (b := .append) (xs := #[.tmp 15, .tmp 19]) rfl ?_); at_builtin; refine Kd.R_append k23 (w0 := w) w.heap.size rfl (.tmp 15) (.tmp 19) 35 23 (.agg #[(.int .i64 0), (.int .i64 0)]) 16 rfl Try.underlying35 info23 rfl (by decide) (by omega) u5 x5_1 (⟨t1576, t1577⟩ : S23) [.int .i64 t1576, .int .i64 t1577] (fun _ => True) (fun _ => False) rfl rfl ?aP (fun _ hk => hk.elim) ?aF ?aO ?aB ?aS ?aL ?_; (case aP => exact k23_mkM _ _ _ (⟨t1576, t1577⟩ : S23)); (case aB => exact (by repeat (first | (with_reducible first | exact HB.out | apply below_alloc | apply pw_below_drewN | apply below_drew1 | refine below_set ?_ GE1574.out) | exact HB.out))); (case aF => exact (fun _ _ => trivial)); (case aO => exact (by (with_reducible repeat (first | apply Kd.R_alloc | apply Kd.R_drewN | apply Kd.R_drew)); exact HO_5.out)); (case aS => exact (below_size (by repeat (first | (with_reducible first | exact HB.out | apply below_alloc | apply pw_below_drewN | apply below_drew1 | refine below_set ?_ GE1574.out) | exact HB.out)))); (case aL => have := LMc8.out; omega); intro v1579 w10 ho hb hg hat; rw [← Ny1578.out] at ho; have n0_ := Aside0.mk (blk_grown (g := gb1574) (o := .cells #[.slice (some ad1575) l0_0.length c0_0, .int .i64 a0_1] 94 (0, 0)) (by (with_reducible repeat (first | refine blk_drewN ?_ _ | refine blk_drew ?_ | refine blk_alloc ?_ _)); exact BK1574.out) hg (Kd.R_ne HO_5.out BK1574.out (by decide))); have n1_ := Aside0.mk (hb); have n2_ := Aside0.mk (ho); clear BK1574; clear HB; clear HO_5; have BK1574 := n0_; have HB := n1_; have HO1580 := n2_; clear n0_ n1_ n2_; clear ho hb hg hat))
       go_roundg k1
       case measure => have := HK1.out; omega
       case rel => exact ⟨(y1578), (wrap64 (x11_1 + 1)), (by first | rfl | (simp; done) | (simp [*]; done)), H', ⟨by have := HK1.out; omega⟩, ⟨by (with_reducible repeat (first | apply Kd.R_alloc | apply Kd.R_drewN | apply Kd.R_drew)); exact HO1580.out⟩, ⟨by (with_reducible repeat (first | refine blk_drewN ?_ _ | refine blk_drew ?_ | refine blk_alloc ?_ _)); exact BK1574.out⟩, ⟨by repeat (first | (with_reducible first | exact HB.out | apply below_alloc | apply pw_below_drewN | apply below_drew1 | refine below_set ?_ GE1574.out) | exact HB.out)⟩⟩
      ·rw [if_neg c8] at H
       exact absurd H (by simp)
     ·rw [if_neg c6] at H
      exact absurd H (by simp)
    ·rw [if_neg c5] at H
     exact absurd H (by simp)
   ·rw [if_neg c4] at H
    have c4b0 : decide (x11_1 < (l0_0.length : Int)) = false := decide_eq_false c4
    clear c4
    obtain rfl := Option.some.inj H
    go_wp2
    go_ret
    exact ⟨_, by first | rfl | (simp [errW_none, errW_some] <;> rfl) | (simp [*, errW_none, errW_some] <;> rfl), by (with_reducible repeat (first | apply Kd.R_alloc | apply Kd.R_drewN | apply Kd.R_drew)); exact HO_5.out, by repeat (first | (with_reducible first | exact HB.out | apply below_alloc | apply pw_below_drewN | apply below_drew1 | refine below_set ?_ GE1574.out) | exact HB.out)⟩
end Go.Proofs.Ytjohcjfmlhihbaa.G

/- ### F129 -/
namespace Go.Proofs.Ytjohcjfmlhihbaa.G
open Go.RowKit Go.Proofs.YtjohcjfmlhihbaaW.PrintWords Go.Proofs.YtjohcjfmlhihbaaW.PrintLast Go.Proofs.YtjohcjfmlhihbaaW.PrintMore
attribute [local go_sem] cond_true cond_false fld23_0 fld23_1 fld45_0 fld45_1 fld109_0 fld109_1 fld94_0 fld94_1 max2_int min2_int max_two min_two max_three min_three max_four min_four   -- for this text's walks alone
set_option linter.unusedVariables false
set_option linter.unusedSimpArgs false
def shares_smaller.f (k : Nat) (a0_0 : Int) (a0_1 : Int) (a1_0 : Int) (a1_1 : Int) : Option (Int × Int) := (shares_compare.f k a0_0 a0_1 a1_0 a1_1).bind fun t1556 => (if t1556 ≤ 0 then (some (a0_0, a0_1)) else (some (a1_0, a1_1)))
theorem shares_smaller.mono : ∀ a0 a1 a2 a3 k, LeO (shares_smaller.f k a0 a1 a2 a3) (shares_smaller.f (k + 1) a0 a1 a2 a3) := by
 intro a0 a1 a2 a3 k
 unfold shares_smaller.f
 repeat' first
   | (with_reducible exact shares_compare.mono _ _ _ _ _)
   | (with_reducible exact LeO.refl _)
   | (with_reducible exact LeO.none _)
   | (with_reducible refine LeO.ite ?_ ?_)
   | (with_reducible refine LeO.bind ?_ (fun _ => ?_))
   | exact shares_compare.mono _ _ _ _ _
   | exact LeO.none _
   | refine LeO.ite ?_ ?_
   | refine LeO.bind ?_ (fun _ => ?_)
set_option maxHeartbeats 8000000 in
set_option maxRecDepth 100000 in
theorem shares_smaller.calls (k : Nat) (a0_0 : Int) (a0_1 : Int) (a1_0 : Int) (a1_1 : Int) (r1 : Int) (r2 : Int) (w : World) (h : shares_smaller.f k a0_0 a0_1 a1_0 a1_1 = some (r1, r2)) :
  Calls Try.prog 129 #[.agg #[.int .i64 a0_0, .int .i64 a0_1], .agg #[.int .i64 a1_0, .int .i64 a1_1]] w fun e w' => e = .returned (.agg #[.int .i64 r1, .int .i64 r2]) ∧ Below w.heap.size w w' := by
 have hu23 := Try.underlying23
 have HB := A_ (Below.refl w.heap.size w)
 have H : ((shares_compare.f k a0_0 a0_1 a1_0 a1_1).bind fun t1556 => (if t1556 ≤ 0 then (some (a0_0, a0_1)) else (some (a1_0, a1_1)))) = some (r1, r2) := h
 clear h
 replace H := Option.bind_eq_some_iff.mp H
 obtain ⟨t1556, A30, H⟩ := H
 replace H : (if t1556 ≤ 0 then (some (a0_0, a0_1)) else (some (a1_0, a1_1))) = some (r1, r2) := H
 have A3 := A_ A30
 clear A30
 by_cases c4 : t1556 ≤ 0
 ·rw [if_pos c4] at H
  have c4b0 : decide (t1556 ≤ 0) = true := decide_eq_true c4
  clear c4
  simp only [Option.some.injEq, Prod.mk.injEq] at H
  obtain ⟨rfl, rfl⟩ := H
  go_enter Try.func129, Try.ntmps129
  go_wp2_with (first | ((with_reducible refine gate_dst (N := 2) rfl ?_); refine box_event ?hg (N := 2) ?hd (cs := #[.int .i64 a0_0, .int .i64 a0_1]) (t := 23) ?hr ?_; (case hd => rfl); (case hg => rfl); (case hr => first | (go_simp; done) | (go_simp; rfl)); intro gb1553 hg w5 hbox hb; have BK1553 := A_ hbox; have GW1553 := gw hg HB; have GE1553 := GW1553; replace HB := bB HB hb; clear hb hbox hg) | ((with_reducible refine gate_dst (N := 3) rfl ?_); refine box_event ?hg (N := 3) ?hd (cs := #[.int .i64 a1_0, .int .i64 a1_1]) (t := 23) ?hr ?_; (case hd => rfl); (case hg => rfl); (case hr => first | (go_simp; done) | (go_simp; rfl)); intro gb1554 hg w6 hbox hb; have BK1554 := A_ hbox; have GW1554 := gw hg HB; have GE1554 := GW1554; have NB1553_1554 := nl hg BK1553; have NB1554_1553 := ng hg BK1553; replace BK1553 := kB BK1553 hb; replace HB := bB HB hb; clear hb hbox hg) | ((with_reducible refine gate_dst (N := 4) rfl ?_); refine box_event ?hg (N := 4) ?hd (cs := #[.int .i64 0, .int .i64 0]) (t := 23) ?hr ?_; (case hd => rfl); (case hg => rfl); (case hr => first | (go_simp; done) | (go_simp; rfl)); intro gb1555 hg w7 hbox hb; have BK1555 := A_ hbox; have GW1555 := gw hg HB; have GE1555 := GW1555; have NB1553_1555 := nl hg BK1553; have NB1555_1553 := ng hg BK1553; have NB1554_1555 := nl hg BK1554; have NB1555_1554 := ng hg BK1554; replace BK1553 := kB BK1553 hb; replace BK1554 := kB BK1554 hb; replace HB := bB HB hb; clear hb hbox hg; have hnb8 := NB1553_1554.out; have hnc8 := NB1554_1553.out; have hnb9 := NB1553_1555.out; have hnc9 := NB1555_1553.out; have hcz10_0 : w7.cell? ⟨gb1553, 0, none⟩ = some (.int .i64 a0_0) := cz BK1553 0; have hcz10_1 : w7.cell? ⟨gb1553, 1, none⟩ = some (.int .i64 a0_1) := cz BK1553 1; have hfz10_0 := blk_frozen BK1553.out 0; have hfz10_1 := blk_frozen BK1553.out 1; have hnb11 := NB1554_1555.out; have hnc11 := NB1555_1554.out; have hcz12_0 : w7.cell? ⟨gb1554, 0, none⟩ = some (.int .i64 a1_0) := cz BK1554 0; have hcz12_1 : w7.cell? ⟨gb1554, 1, none⟩ = some (.int .i64 a1_1) := cz BK1554 1; have hfz12_0 := blk_frozen BK1554.out 0; have hfz12_1 := blk_frozen BK1554.out 1) | ((with_reducible refine gate_callee (f := 85) rfl ?_); refine goesL_ (some 7) rfl rfl Try.func85 (by kernel_rfl) rfl #[.agg #[.int .i64 a0_0, .int .i64 a0_1], .agg #[.int .i64 a1_0, .int .i64 a1_1]] rfl (by (try simp only [List.map_toArray, List.map_cons, List.map_nil]); first | done | rfl | (simp only [List.length_drop, List.length_take]; rfl)) ?_; (with_reducible refine (shares_compare.calls k a0_0 a0_1 a1_0 a1_1 t1556 _ A3.out).mono ?_); rintro e w13 ⟨rfl, hb⟩; refine ⟨_, rfl, ?_⟩; replace BK1553 := kB BK1553 hb; replace BK1554 := kB BK1554 hb; replace BK1555 := kB BK1555 hb; replace HB := bB HB hb; (try clear hb); (try clear hb2); (try clear hk); (try clear hi); have hcz14_0 : w13.cell? ⟨gb1553, 0, none⟩ = some (.int .i64 a0_0) := cz BK1553 0; have hcz14_1 : w13.cell? ⟨gb1553, 1, none⟩ = some (.int .i64 a0_1) := cz BK1553 1; have hfz14_0 := blk_frozen BK1553.out 0; have hfz14_1 := blk_frozen BK1553.out 1; have hcz15_0 : w13.cell? ⟨gb1555, 0, none⟩ = some (.int .i64 0) := cz BK1555 0; have hcz15_1 : w13.cell? ⟨gb1555, 1, none⟩ = some (.int .i64 0) := cz BK1555 1; have hfz15_0 := blk_frozen BK1555.out 0; have hfz15_1 := blk_frozen BK1555.out 1))
  refine bodyPost_ret (results_cell_row rfl _ _ gb1555 23 #[.int .i64 a0_0, .int .i64 a0_1] (0, 0) _ rfl (by (with_reducible repeat (first | refine blk_drewN ?_ _ | refine blk_drew ?_ | refine blk_alloc ?_ _)); refine blk_put (cs := #[.int .i64 a0_0, .int .i64 0]) ?_ 1 _ rfl; (with_reducible repeat (first | refine blk_drewN ?_ _ | refine blk_drew ?_ | refine blk_alloc ?_ _)); refine blk_put (cs := #[.int .i64 0, .int .i64 0]) ?_ 0 _ rfl; (with_reducible repeat (first | refine blk_drewN ?_ _ | refine blk_drew ?_ | refine blk_alloc ?_ _)); exact BK1555.out) Try.underlying23 rfl (by kernel_rfl)) rfl ?_
  exact ⟨rfl, by repeat (first | (with_reducible first | exact HB.out | apply below_alloc | apply pw_below_drewN | apply below_drew1 | refine below_set ?_ GE1553.out | refine below_set ?_ GE1554.out | refine below_set ?_ GE1555.out) | exact HB.out)⟩
 ·rw [if_neg c4] at H
  have c4b0 : decide (t1556 ≤ 0) = false := decide_eq_false c4
  clear c4
  simp only [Option.some.injEq, Prod.mk.injEq] at H
  obtain ⟨rfl, rfl⟩ := H
  go_enter Try.func129, Try.ntmps129
  go_wp2_with (first | ((with_reducible refine gate_dst (N := 2) rfl ?_); refine box_event ?hg (N := 2) ?hd (cs := #[.int .i64 a0_0, .int .i64 a0_1]) (t := 23) ?hr ?_; (case hd => rfl); (case hg => rfl); (case hr => first | (go_simp; done) | (go_simp; rfl)); intro gb1553 hg w16 hbox hb; have BK1553 := A_ hbox; have GW1553 := gw hg HB; have GE1553 := GW1553; replace HB := bB HB hb; clear hb hbox hg) | ((with_reducible refine gate_dst (N := 3) rfl ?_); refine box_event ?hg (N := 3) ?hd (cs := #[.int .i64 a1_0, .int .i64 a1_1]) (t := 23) ?hr ?_; (case hd => rfl); (case hg => rfl); (case hr => first | (go_simp; done) | (go_simp; rfl)); intro gb1554 hg w17 hbox hb; have BK1554 := A_ hbox; have GW1554 := gw hg HB; have GE1554 := GW1554; have NB1553_1554 := nl hg BK1553; have NB1554_1553 := ng hg BK1553; replace BK1553 := kB BK1553 hb; replace HB := bB HB hb; clear hb hbox hg) | ((with_reducible refine gate_dst (N := 4) rfl ?_); refine box_event ?hg (N := 4) ?hd (cs := #[.int .i64 0, .int .i64 0]) (t := 23) ?hr ?_; (case hd => rfl); (case hg => rfl); (case hr => first | (go_simp; done) | (go_simp; rfl)); intro gb1555 hg w18 hbox hb; have BK1555 := A_ hbox; have GW1555 := gw hg HB; have GE1555 := GW1555; have NB1553_1555 := nl hg BK1553; have NB1555_1553 := ng hg BK1553; have NB1554_1555 := nl hg BK1554; have NB1555_1554 := ng hg BK1554; replace BK1553 := kB BK1553 hb; replace BK1554 := kB BK1554 hb; replace HB := bB HB hb; clear hb hbox hg; have hnb19 := NB1553_1554.out; have hnc19 := NB1554_1553.out; have hnb20 := NB1553_1555.out; have hnc20 := NB1555_1553.out; have hcz21_0 : w18.cell? ⟨gb1553, 0, none⟩ = some (.int .i64 a0_0) := cz BK1553 0; have hcz21_1 : w18.cell? ⟨gb1553, 1, none⟩ = some (.int .i64 a0_1) := cz BK1553 1; have hfz21_0 := blk_frozen BK1553.out 0; have hfz21_1 := blk_frozen BK1553.out 1; have hnb22 := NB1554_1555.out; have hnc22 := NB1555_1554.out; have hcz23_0 : w18.cell? ⟨gb1554, 0, none⟩ = some (.int .i64 a1_0) := cz BK1554 0; have hcz23_1 : w18.cell? ⟨gb1554, 1, none⟩ = some (.int .i64 a1_1) := cz BK1554 1; have hfz23_0 := blk_frozen BK1554.out 0; have hfz23_1 := blk_frozen BK1554.out 1) | ((with_reducible refine gate_callee (f := 85) rfl ?_); refine goesL_ (some 7) rfl rfl Try.func85 (by kernel_rfl) rfl #[.agg #[.int .i64 a0_0, .int .i64 a0_1], .agg #[.int .i64 a1_0, .int .i64 a1_1]] rfl (by (try simp only [List.map_toArray, List.map_cons, List.map_nil]); first | done | rfl | (simp only [List.length_drop, List.length_take]; rfl)) ?_; (with_reducible refine (shares_compare.calls k a0_0 a0_1 a1_0 a1_1 t1556 _ A3.out).mono ?_); rintro e w24 ⟨rfl, hb⟩; refine ⟨_, rfl, ?_⟩; replace BK1553 := kB BK1553 hb; replace BK1554 := kB BK1554 hb; replace BK1555 := kB BK1555 hb; replace HB := bB HB hb; (try clear hb); (try clear hb2); (try clear hk); (try clear hi); have hcz25_0 : w24.cell? ⟨gb1554, 0, none⟩ = some (.int .i64 a1_0) := cz BK1554 0; have hcz25_1 : w24.cell? ⟨gb1554, 1, none⟩ = some (.int .i64 a1_1) := cz BK1554 1; have hfz25_0 := blk_frozen BK1554.out 0; have hfz25_1 := blk_frozen BK1554.out 1; have hcz26_0 : w24.cell? ⟨gb1555, 0, none⟩ = some (.int .i64 0) := cz BK1555 0; have hcz26_1 : w24.cell? ⟨gb1555, 1, none⟩ = some (.int .i64 0) := cz BK1555 1; have hfz26_0 := blk_frozen BK1555.out 0; have hfz26_1 := blk_frozen BK1555.out 1))
  refine bodyPost_ret (results_cell_row rfl _ _ gb1555 23 #[.int .i64 a1_0, .int .i64 a1_1] (0, 0) _ rfl (by (with_reducible repeat (first | refine blk_drewN ?_ _ | refine blk_drew ?_ | refine blk_alloc ?_ _)); refine blk_put (cs := #[.int .i64 a1_0, .int .i64 0]) ?_ 1 _ rfl; (with_reducible repeat (first | refine blk_drewN ?_ _ | refine blk_drew ?_ | refine blk_alloc ?_ _)); refine blk_put (cs := #[.int .i64 0, .int .i64 0]) ?_ 0 _ rfl; (with_reducible repeat (first | refine blk_drewN ?_ _ | refine blk_drew ?_ | refine blk_alloc ?_ _)); exact BK1555.out) Try.underlying23 rfl (by kernel_rfl)) rfl ?_
  exact ⟨rfl, by repeat (first | (with_reducible first | exact HB.out | apply below_alloc | apply pw_below_drewN | apply below_drew1 | refine below_set ?_ GE1553.out | refine below_set ?_ GE1554.out | refine below_set ?_ GE1555.out) | exact HB.out)⟩
end Go.Proofs.Ytjohcjfmlhihbaa.G

/- ### Ff -/
namespace Go.Proofs.Ytjohcjfmlhihbaa.G
open Go Go.RowKit Go.Proofs.YtjohcjfmlhihbaaW.PrintWords Go.Proofs.YtjohcjfmlhihbaaW.PrintLast
variable {P : Program} {ops : Array Oper} {Q : Exit → Act → World → Prop}
theorem goesV_ {oi : Oper} {N : Option Tmp} {a : Act} {w : World} {K : Act → World → Prop} {f : FuncId} {fn : Func} {as_ : Array Operand} {ts : Array TypeId} (hf : P.funcs[f]? = some fn) (hname : (fn.name == "runtime.NumGoroutine") = false) (hb : fn.body.isSome = true) (args cap : Array Value) (t : Tmp)
    (hw : Region.wanted oi (yielded ops a.tmps) = true) (hN : oi.dst = N) (hop : oi.op = .call { callee := .value (.tmp t), args := as_, argTypes := ts }) (hv : a.eval (.tmp t) = .func (.func f) #[] cap) (hargs : as_.map a.eval = args)
    (h : Calls P f (args ++ cap) w fun e w' => ∃ v, e = .returned v ∧ K (a.put N v) w') : if Region.wanted oi (yielded ops a.tmps) = true then Oper.wp P oi a w K Q else K (a.put N undef) w := by
  refine call_ f (args ++ cap) hw hN ?_ h
  have he := enters_ hf hname hb (args ++ cap) w
  have hargs' : as_.map (fun o => a.eval o) = args := hargs
  unfold execOp
  simp [hop, resolve, Deferred.ofValue, invoke, hv, hargs, hargs', he]
end Go.Proofs.Ytjohcjfmlhihbaa.G

/- ### F114 -/
namespace Go.Proofs.Ytjohcjfmlhihbaa.G
open Go.RowKit Go.Proofs.YtjohcjfmlhihbaaW.PrintWords Go.Proofs.YtjohcjfmlhihbaaW.PrintLast Go.Proofs.YtjohcjfmlhihbaaW.PrintMore
attribute [local go_sem] cond_true cond_false fld23_0 fld23_1 fld45_0 fld45_1 fld109_0 fld109_1 fld94_0 fld94_1 max2_int min2_int max_two min_two max_three min_three max_four min_four   -- for this text's walks alone
set_option linter.unusedVariables false
set_option linter.unusedSimpArgs false
def api_Frac_1.f (k : Nat) (a0 : Int) (a1 : Int) (a2 : Int) (l3 : List (S23)) : Option (Int) := if 0 ≤ a0 then (if a0 < (l3.length : Int) then (if 0 ≤ a1 then (if a1 < (l3.length : Int) then ((shares_compare.f k ((rd_T23 l3 a0).f0) ((rd_T23 l3 a0).f1) ((rd_T23 l3 a1).f0) ((rd_T23 l3 a1).f1)).bind fun t125 => (some t125)) else (none)) else (none)) else (none)) else (none)
theorem api_Frac_1.mono : ∀ a0 a1 a2 a3 k, LeO (api_Frac_1.f k a0 a1 a2 a3) (api_Frac_1.f (k + 1) a0 a1 a2 a3) := by
 intro a0 a1 a2 a3 k
 unfold api_Frac_1.f
 repeat' first
   | (with_reducible exact shares_compare.mono _ _ _ _ _)
   | (with_reducible exact LeO.refl _)
   | (with_reducible exact LeO.none _)
   | (with_reducible refine LeO.ite ?_ ?_)
   | (with_reducible refine LeO.bind ?_ (fun _ => ?_))
   | exact shares_compare.mono _ _ _ _ _
   | exact LeO.none _
   | refine LeO.ite ?_ ?_
   | refine LeO.bind ?_ (fun _ => ?_)
set_option maxHeartbeats 8000000 in
set_option maxRecDepth 100000 in
theorem api_Frac_1.calls (k : Nat) (a0 : Int) (a1 : Int) (a2 : Int) (A3 : Option Addr) (c3 : Nat) (l3 : List (S23)) (r : Int) (w : World) (gb121 gb122 : Nat) (BK0 : w.heap[gb121]? = some (.cells #[.func (.func 85) #[] #[]] 123 (0, 0))) (BK1 : w.heap[gb122]? = some (.cells #[.slice A3 l3.length c3] 35 (0, 0))) (nb0 : gb121 ≠ gb122) (hr3 : Kd.C k23 w A3 l3.length l3) (hc3 : l3.length ≤ c3) (h : api_Frac_1.f k a0 a1 a2 l3 = some r) :
  Calls Try.prog 114 #[.int .i64 a0, .int .i64 a1, .pointer (some ⟨gb121, 0, none⟩), .pointer (some ⟨gb122, 0, none⟩)] w fun e w' => e = .returned (.int .i64 r) ∧ Below w.heap.size w w' := by
 have hu23 := Try.underlying23
 have BK121 := A_ BK0
 have BK122 := A_ BK1
 have NB121_122 := A_ nb0
 have NB122_121 := A_ nb0.symm
 clear BK0 BK1 nb0
 have HR3 := A_ hr3
 have HC3 := A_ hc3
 clear hr3 hc3
 have HB := A_ (Below.refl w.heap.size w)
 have H : (if 0 ≤ a0 then (if a0 < (l3.length : Int) then (if 0 ≤ a1 then (if a1 < (l3.length : Int) then ((shares_compare.f k ((rd_T23 l3 a0).f0) ((rd_T23 l3 a0).f1) ((rd_T23 l3 a1).f0) ((rd_T23 l3 a1).f1)).bind fun t125 => (some t125)) else (none)) else (none)) else (none)) else (none)) = some r := h
 clear h
 by_cases c5 : 0 ≤ a0
 ·rw [if_pos c5] at H
  have c5b0 : decide (0 ≤ a0) = true := decide_eq_true c5
  clear c5
  by_cases c6 : a0 < (l3.length : Int)
  ·rw [if_pos c6] at H
   have c6b0 : decide (a0 < (l3.length : Int)) = true := decide_eq_true c6
   clear c6
   by_cases c7 : 0 ≤ a1
   ·rw [if_pos c7] at H
    have c7b0 : decide (0 ≤ a1) = true := decide_eq_true c7
    clear c7
    by_cases c8 : a1 < (l3.length : Int)
    ·rw [if_pos c8] at H
     have c8b0 : decide (a1 < (l3.length : Int)) = true := decide_eq_true c8
     clear c8
     replace H := Option.bind_eq_some_iff.mp H
     obtain ⟨t125, A90, H⟩ := H
     replace H : (some t125) = some r := H
     have A9 := A_ A90
     clear A90
     obtain rfl := Option.some.inj H
     go_enter Try.func114, Try.ntmps114
     try go_wp2_with (first | ((with_reducible refine gate_dst (N := 541) rfl ?_); refine box_event ?hg (N := 541) ?hd (cs := #[.slice A3 l3.length c3]) (t := 35) ?hr ?_; (case hd => rfl); (case hg => rfl); (case hr => first | (go_simp; done) | (go_simp; rfl)); intro gb122 hg w11 hbox hb; have BK122 := A_ hbox; have GW122 := gw hg HB; have GE122 := GW122; have NB121_122 := nl hg BK121; have NB122_121 := ng hg BK121; replace BK121 := kB BK121 hb; replace HB := bB HB hb; clear hb hbox hg; have hnb12 := NB122_121.out; have hnc12 := NB121_122.out; have hcz13_0 : w11.cell? ⟨gb122, 0, none⟩ = some (.slice A3 l3.length c3) := cz BK122 0; have hfz13_0 := blk_frozen BK122.out 0))
     replace BK121 := A_ (blk_drew BK121.out)
     replace BK122 := A_ (blk_drew BK122.out)
     replace HB := A_ (below_drew1 HB.out)
     have p123 : 0 ≤ (a0 : Int) := of_decide_eq_true (by first | (with_reducible assumption) | assumption)
     have q123 : a0 < (l3.length : Int) := of_decide_eq_true (by first | (with_reducible assumption) | assumption)
     obtain ⟨ad123, e123, hx123_0, hx123_1⟩ := at_T23 HR3.out a0 p123 q123
     have hw123_1 := hx123_1
     have hw123_0 := hx123_0
     cases e123
     replace hx123_0 := (HB.out.cell (World.block_lt_of_cell? w _ hx123_0)).trans hx123_0
     replace hx123_1 := (HB.out.cell (World.block_lt_of_cell? w _ hx123_1)).trans hx123_1
     replace p123 := eq_true p123
     replace q123 := eq_true q123
     have p124 : 0 ≤ (a1 : Int) := of_decide_eq_true (by first | (with_reducible assumption) | assumption)
     have q124 : a1 < (l3.length : Int) := of_decide_eq_true (by first | (with_reducible assumption) | assumption)
     obtain ⟨ad124, e124, hx124_0, hx124_1⟩ := at_T23 HR3.out a1 p124 q124
     have hw124_1 := hx124_1
     have hw124_0 := hx124_0
     obtain rfl : ad123 = ad124 := (by injection e124)
     replace hx124_0 := (HB.out.cell (World.block_lt_of_cell? w _ hx124_0)).trans hx124_0
     replace hx124_1 := (HB.out.cell (World.block_lt_of_cell? w _ hx124_1)).trans hx124_1
     replace p124 := eq_true p124
     replace q124 := eq_true q124
     refine start_ (n := 11) (S := fun w' => w'.cell? ⟨gb121, 0, none⟩ = some (.func (.func 85) #[] #[]) ∧ w'.cell? ⟨gb122, 0, none⟩ = some (.slice (some ad123) l3.length c3) ∧ w'.cell? (ad123.add ((a0).toNat * 2)) = some (.int .i64 ((rd_T23 l3 a0).f0)) ∧ w'.cell? ⟨(ad123.add ((a0).toNat * 2)).block, (ad123.add ((a0).toNat * 2)).off + 1, none⟩ = some (.int .i64 ((rd_T23 l3 a0).f1)) ∧ w'.cell? (ad123.add ((a1).toNat * 2)) = some (.int .i64 ((rd_T23 l3 a1).f0)) ∧ w'.cell? ⟨(ad123.add ((a1).toNat * 2)).block, (ad123.add ((a1).toNat * 2)).off + 1, none⟩ = some (.int .i64 ((rd_T23 l3 a1).f1))) (ds := []) (ba 11 0) (by kernel_rfl) rfl rfl ⟨cz BK121 0, cz BK122 0, ((HB.out.cell (World.block_lt_of_cell? w _ hw123_0)).trans hw123_0), ((HB.out.cell (World.block_lt_of_cell? w _ hw123_1)).trans hw123_1), ((HB.out.cell (World.block_lt_of_cell? w _ hw124_0)).trans hw124_0), ((HB.out.cell (World.block_lt_of_cell? w _ hw124_1)).trans hw124_1)⟩ (fun hHeld => ?_)
     generalize w.drew = w14 at BK121 BK122 HB hx123_0 hx123_1 hx124_0 hx124_1 hHeld ⊢
     refine pr 2 9 4 ?_
     refine pr 6 13 68 ?_
     refine tr 0 7 69 hHeld ?_
     refine tr 1 8 71 hHeld ?_
     refine pr 3 10 79 ?_
     refine tr 4 11 95 hHeld ?_
     refine tr 5 12 127 hHeld ?_
     refine pr 7 14 255 ?_
     refine tr 8 15 511 hHeld ?_
     refine os 9 16 1023 (fun K hK => ?_)
     refine goesV_ Try.func85 (by kernel_rfl) rfl #[.agg #[.int .i64 ((rd_T23 l3 a0).f0), .int .i64 ((rd_T23 l3 a0).f1)], .agg #[.int .i64 ((rd_T23 l3 a1).f0), .int .i64 ((rd_T23 l3 a1).f1)]] #[] 7 (by rfl) rfl rfl rfl (by (try simp only [List.map_toArray, List.map_cons, List.map_nil]); first | done | rfl | (simp only [List.length_drop, List.length_take]; rfl)) ?_
     rw [Array.append_empty]
     with_reducible refine (shares_compare.calls k ((rd_T23 l3 a0).f0) ((rd_T23 l3 a0).f1) ((rd_T23 l3 a1).f0) ((rd_T23 l3 a1).f1) t125 _ A9.out).mono ?_
     rintro e w15 ⟨rfl, hb⟩
     refine ⟨_, rfl, ?_⟩
     replace BK121 := kB BK121 hb
     replace BK122 := kB BK122 hb
     replace HB := bB HB hb
     (try clear hb)
     (try clear hb2)
     (try clear hk)
     (try clear hi)
     refine hK.out _ _ ⟨cz BK121 0, cz BK122 0, ((HB.out.cell (World.block_lt_of_cell? w _ hw123_0)).trans hw123_0), ((HB.out.cell (World.block_lt_of_cell? w _ hw123_1)).trans hw123_1), ((HB.out.cell (World.block_lt_of_cell? w _ hw124_0)).trans hw124_0), ((HB.out.cell (World.block_lt_of_cell? w _ hw124_1)).trans hw124_1)⟩ (fun hHeld => ?_)
     clear hK K
     refine nq 16 ?_
     refine pr 10 6 2047 ?_
     refine done_ (by kernel_rfl) ?_
     try go_wp2
     go_ret
     exact ⟨by first | rfl | (simp [errW_none, errW_some] <;> rfl) | (simp [*, errW_none, errW_some] <;> rfl), by repeat (first | (with_reducible first | exact HB.out | apply below_alloc | apply pw_below_drewN | apply below_drew1 | refine below_set ?_ GE121.out | refine below_set ?_ GE122.out) | exact HB.out)⟩
    ·rw [if_neg c8] at H
     exact absurd H (by simp)
   ·rw [if_neg c7] at H
    exact absurd H (by simp)
  ·rw [if_neg c6] at H
   exact absurd H (by simp)
 ·rw [if_neg c5] at H
  exact absurd H (by simp)
end Go.Proofs.Ytjohcjfmlhihbaa.G

/- ### F132 -/
namespace Go.Proofs.Ytjohcjfmlhihbaa.G
open Go.RowKit Go.Proofs.YtjohcjfmlhihbaaW.PrintWords Go.Proofs.YtjohcjfmlhihbaaW.PrintLast Go.Proofs.YtjohcjfmlhihbaaW.PrintMore
attribute [local go_sem] cond_true cond_false fld23_0 fld23_1 fld45_0 fld45_1 fld109_0 fld109_1 fld94_0 fld94_1 max2_int min2_int max_two min_two max_three min_three max_four min_four   -- for this text's walks alone
set_option linter.unusedVariables false
set_option linter.unusedSimpArgs false
mutual
def slices_insertionSortCmpFunc_int.l0 : Nat → List Int → Int → Int → List (S23) → Int → Option (List Int)
 | 0, _, _, _, _, _ => none
 | k + 1, x0, x1, x2, x3, x8 => if x8 < x2 then (slices_insertionSortCmpFunc_int.l1 k x0 x1 x2 x3 x8 x8) else (some x0)
def slices_insertionSortCmpFunc_int.l1 : Nat → List Int → Int → Int → List (S23) → Int → Int → Option (List Int)
 | 0, _, _, _, _, _, _ => none
 | k + 1, x0, x1, x2, x3, x8, x9 => if x9 > x1 then (if 0 ≤ x9 then (if x9 < (x0.length : Int) then (if 0 ≤ (wrap64 (x9 - 1)) then (if (wrap64 (x9 - 1)) < (x0.length : Int) then ((api_Frac_1.f k (rd x0 x9) (rd x0 (wrap64 (x9 - 1))) 0 x3).bind fun t1027 => (if t1027 < 0 then (slices_insertionSortCmpFunc_int.l1 k ((x0.set (x9 : Int).toNat (rd x0 (wrap64 (x9 - 1)))).set ((wrap64 (x9 - 1)) : Int).toNat (rd x0 x9)) x1 x2 x3 x8 (wrap64 (x9 - 1))) else (slices_insertionSortCmpFunc_int.l0 k x0 x1 x2 x3 (wrap64 (x8 + 1))))) else (none)) else (none)) else (none)) else (none)) else (slices_insertionSortCmpFunc_int.l0 k x0 x1 x2 x3 (wrap64 (x8 + 1)))
end
def slices_insertionSortCmpFunc_int.f (k : Nat) (l0 : List Int) (a1 : Int) (a2 : Int) (l3 : List (S23)) : Option (List Int) := slices_insertionSortCmpFunc_int.l0 k l0 a1 a2 l3 (wrap64 (a1 + 1))
theorem slices_insertionSortCmpFunc_int.mono_l : ∀ k, (∀ y0 y1 y2 y3 y4, LeO (slices_insertionSortCmpFunc_int.l0 k y0 y1 y2 y3 y4) (slices_insertionSortCmpFunc_int.l0 (k + 1) y0 y1 y2 y3 y4)) ∧ (∀ y0 y1 y2 y3 y4 y5, LeO (slices_insertionSortCmpFunc_int.l1 k y0 y1 y2 y3 y4 y5) (slices_insertionSortCmpFunc_int.l1 (k + 1) y0 y1 y2 y3 y4 y5))
 | 0 => ⟨fun _ _ _ _ _ r h => by simp [slices_insertionSortCmpFunc_int.l0] at h, fun _ _ _ _ _ _ r h => by simp [slices_insertionSortCmpFunc_int.l1] at h⟩
 | k + 1 => by
  obtain ⟨ih0, ih1⟩ := slices_insertionSortCmpFunc_int.mono_l k
  refine ⟨?_, ?_⟩
  ·intro y0 y1 y2 y3 y4
   unfold slices_insertionSortCmpFunc_int.l0
   repeat' first
   | (with_reducible exact ih0 _ _ _ _ _)
   | (with_reducible exact ih1 _ _ _ _ _ _)
   | (with_reducible exact api_Frac_1.mono _ _ _ _ _)
   | (with_reducible exact LeO.refl _)
   | (with_reducible exact LeO.none _)
   | (with_reducible refine LeO.ite ?_ ?_)
   | (with_reducible refine LeO.bind ?_ (fun _ => ?_))
   | exact ih0 _ _ _ _ _
   | exact ih1 _ _ _ _ _ _
   | exact api_Frac_1.mono _ _ _ _ _
   | exact LeO.none _
   | refine LeO.ite ?_ ?_
   | refine LeO.bind ?_ (fun _ => ?_)
  ·intro y0 y1 y2 y3 y4 y5
   unfold slices_insertionSortCmpFunc_int.l1
   repeat' first
   | (with_reducible exact ih0 _ _ _ _ _)
   | (with_reducible exact ih1 _ _ _ _ _ _)
   | (with_reducible exact api_Frac_1.mono _ _ _ _ _)
   | (with_reducible exact LeO.refl _)
   | (with_reducible exact LeO.none _)
   | (with_reducible refine LeO.ite ?_ ?_)
   | (with_reducible refine LeO.bind ?_ (fun _ => ?_))
   | exact ih0 _ _ _ _ _
   | exact ih1 _ _ _ _ _ _
   | exact api_Frac_1.mono _ _ _ _ _
   | exact LeO.none _
   | refine LeO.ite ?_ ?_
   | refine LeO.bind ?_ (fun _ => ?_)
theorem slices_insertionSortCmpFunc_int.mono : ∀ a0 a1 a2 a3 k, LeO (slices_insertionSortCmpFunc_int.f k a0 a1 a2 a3) (slices_insertionSortCmpFunc_int.f (k + 1) a0 a1 a2 a3) := by
 intro a0 a1 a2 a3 k
 obtain ⟨ih0, ih1⟩ := slices_insertionSortCmpFunc_int.mono_l k
 unfold slices_insertionSortCmpFunc_int.f
 repeat' first
   | (with_reducible exact ih0 _ _ _ _ _)
   | (with_reducible exact ih1 _ _ _ _ _ _)
   | (with_reducible exact api_Frac_1.mono _ _ _ _ _)
   | (with_reducible exact LeO.refl _)
   | (with_reducible exact LeO.none _)
   | (with_reducible refine LeO.ite ?_ ?_)
   | (with_reducible refine LeO.bind ?_ (fun _ => ?_))
   | exact ih0 _ _ _ _ _
   | exact ih1 _ _ _ _ _ _
   | exact api_Frac_1.mono _ _ _ _ _
   | exact LeO.none _
   | refine LeO.ite ?_ ?_
   | refine LeO.bind ?_ (fun _ => ?_)
set_option maxHeartbeats 8000000 in
set_option maxRecDepth 100000 in
theorem slices_insertionSortCmpFunc_int.calls (k : Nat) (P0_ : Nat → Prop) (u9000_ : Value) (l0 : List Int) (a1 : Int) (a2 : Int) (A3 : Option Addr) (c3 : Nat) (l3 : List (S23)) (r : List Int) (w0 w : World) (gbF gbL : Nat) (BK0 : ∀ W_, Kept w W_ (fun k_ => P0_ k_) → W_.heap[gbF]? = some (.cells #[.func (.func 85) #[] #[]] 123 (0, 0))) (BK1 : ∀ W_, Kept w W_ (fun k_ => P0_ k_) → W_.heap[gbL]? = some (.cells #[.slice A3 l3.length c3] 35 (0, 0))) (nb0 : gbF ≠ gbL) (hB : Below w0.heap.size w0 w) (ho0 : Kd.R (Kd.int .i64) 3 w w0.heap.size P0_ u9000_ l0) (hr3 : ∀ W_, Kept w W_ (fun k_ => P0_ k_) → Kd.C k23 W_ A3 l3.length l3) (hc3 : l3.length ≤ c3) (h : slices_insertionSortCmpFunc_int.f k l0 a1 a2 l3 = some r) :
  Calls Try.prog 132 #[u9000_, .int .i64 a1, .int .i64 a2, .func (.func 114) #[] #[.pointer (some ⟨gbF, 0, none⟩), .pointer (some ⟨gbL, 0, none⟩)]] w fun e w' => e = .returned (.tuple #[]) ∧ Kd.R (Kd.int .i64) 3 w' w0.heap.size (fun k_ => (P0_ k_ ∨ w.heap.size ≤ k_)) u9000_ r ∧ Below w0.heap.size w0 w' ∧ Kept w w' (fun k_ => P0_ k_) := by
 have HO0 := A_ (show Kd.R (Kd.int .i64) 3 w w0.heap.size (fun k_ => (P0_ k_ ∨ w.heap.size ≤ k_)) u9000_ l0 from Kd.R_mono ho0 (fun k_ hk => (.inl hk)))
 have BKF := A_ BK0
 have BKL := A_ BK1
 have NBFL := A_ nb0
 clear BK0 BK1 nb0
 have HR3 := A_ hr3
 have HC3 := A_ hc3
 clear hr3 hc3
 have HK := A_ (Kept.refl w (fun k_ => P0_ k_))
 have HW0 := A_ hB.size
 have HB := A_ hB
 clear hB
 have H : (slices_insertionSortCmpFunc_int.l0 k l0 a1 a2 l3 (wrap64 (a1 + 1))) = some r := h
 clear h
 have H' := A_ H
 clear H
 go_enter Try.func132, Try.ntmps132
 go_wp2
 go_loopg [8] k (fun kq v8 w' => ∃ (x0_1 : List Int) (x8_1 : Int), v8 = .int .i64 x8_1 ∧ Aside0 (slices_insertionSortCmpFunc_int.l0 kq x0_1 a1 a2 l3 x8_1 = some r) ∧ Aside0 (kq ≤ k) ∧ Aside0 (Kd.R (Kd.int .i64) 3 w' w0.heap.size (fun k_ => (P0_ k_ ∨ w.heap.size ≤ k_)) u9000_ x0_1) ∧ Aside0 (Kept w w' (fun k_ => P0_ k_)) ∧ Aside0 (Below w0.heap.size w0 w'))
 case atStart => exact ⟨(l0), (wrap64 (a1 + 1)), rfl, H', ⟨Nat.le_refl _⟩, ⟨by exact HO0.out⟩, ⟨by repeat (first | (with_reducible first | exact HK.out | apply Kept.alloc | apply Kept.drewN | apply Kept.drew) | exact HK.out)⟩, ⟨by repeat (first | (with_reducible first | exact HB.out | apply below_alloc | apply pw_below_drewN | apply below_drew1) | exact HB.out)⟩⟩
 case round =>
  clear H'
  try clear c1
  try clear p2
  try clear c3
  obtain ⟨x0_1, x8_1, rfl, HA, HK1, HO_0, HK, HB⟩ := hrel
  cases gk with
  | zero => exact absurd HA.out (by simp [slices_insertionSortCmpFunc_int.l0])
  | succ k1 =>
   have H := HA.out
   clear HA
   simp only [slices_insertionSortCmpFunc_int.l0] at H
   by_cases c5 : x8_1 < a2
   ·rw [if_pos c5] at H
    have c5b0 : decide (x8_1 < a2) = true := decide_eq_true c5
    clear c5
    have H' := A_ H
    clear H
    go_wp2
    go_loopg [9] k1 (fun kq v9 w' => ∃ (x0_2 : List Int) (x9_2 : Int), v9 = .int .i64 x9_2 ∧ Aside0 (slices_insertionSortCmpFunc_int.l1 kq x0_2 a1 a2 l3 x8_1 x9_2 = some r) ∧ Aside0 (kq ≤ k1) ∧ Aside0 (Kd.R (Kd.int .i64) 3 w' w0.heap.size (fun k_ => (P0_ k_ ∨ w.heap.size ≤ k_)) u9000_ x0_2) ∧ Aside0 (Kept w w' (fun k_ => P0_ k_)) ∧ Aside0 (Below w0.heap.size w0 w'))
    case atStart => exact ⟨(x0_1), (x8_1), rfl, H', ⟨Nat.le_refl _⟩, ⟨by exact HO_0.out⟩, ⟨by repeat (first | (with_reducible first | exact HK.out | apply Kept.alloc | apply Kept.drewN | apply Kept.drew) | exact HK.out)⟩, ⟨by repeat (first | (with_reducible first | exact HB.out | apply below_alloc | apply pw_below_drewN | apply below_drew1) | exact HB.out)⟩⟩
    case round =>
     clear H'
     try clear c1
     try clear p2
     try clear c3
     try clear c5
     try clear c5b0
     try clear p2
     obtain ⟨x0_2, x9_2, rfl, HA, HK2, HO_0, HK, HB⟩ := hrel
     cases gk with
     | zero => exact absurd HA.out (by simp [slices_insertionSortCmpFunc_int.l1])
     | succ k2 =>
      have H := HA.out
      clear HA
      simp only [slices_insertionSortCmpFunc_int.l1] at H
      by_cases c6 : x9_2 > a1
      ·rw [if_pos c6] at H
       have c6b0 : decide (a1 < x9_2) = true := decide_eq_true c6
       clear c6
       by_cases c7 : 0 ≤ x9_2
       ·rw [if_pos c7] at H
        have c7b0 : decide (0 ≤ x9_2) = true := decide_eq_true c7
        clear c7
        by_cases c8 : x9_2 < (x0_2.length : Int)
        ·rw [if_pos c8] at H
         have c8b0 : decide (x9_2 < (x0_2.length : Int)) = true := decide_eq_true c8
         clear c8
         obtain ⟨ji9, hji9⟩ : ∃ j_ : Int, (wrap64 (x9_2 - 1)) = j_ := ⟨_, rfl⟩
         replace H : (if 0 ≤ (ji9) then (if (ji9) < (x0_2.length : Int) then ((api_Frac_1.f k2 (rd x0_2 x9_2) (rd x0_2 (ji9)) 0 l3).bind fun t1027 => (if t1027 < 0 then (slices_insertionSortCmpFunc_int.l1 k2 ((x0_2.set (x9_2 : Int).toNat (rd x0_2 (ji9))).set ((ji9) : Int).toNat (rd x0_2 x9_2)) a1 a2 l3 x8_1 ji9) else (slices_insertionSortCmpFunc_int.l0 k2 x0_2 a1 a2 l3 (wrap64 (x8_1 + 1))))) else (none)) else (none)) = some r := by first | (rw [hji9] at H; exact H) | (simp only [hji9] at H ⊢; exact H)
         have hji9w : (IntKind.i64.wrap (x9_2 - 1)) = ji9 := (i64_w _).trans hji9
         by_cases c10 : 0 ≤ (ji9)
         ·rw [if_pos c10] at H
          have c10b0 : decide (0 ≤ (ji9)) = true := decide_eq_true c10
          clear c10
          by_cases c11 : (ji9) < (x0_2.length : Int)
          ·rw [if_pos c11] at H
           have c11b0 : decide ((ji9) < (x0_2.length : Int)) = true := decide_eq_true c11
           clear c11
           replace H := Option.bind_eq_some_iff.mp H
           obtain ⟨t1027, A120, H⟩ := H
           replace H : (if t1027 < 0 then (slices_insertionSortCmpFunc_int.l1 k2 ((x0_2.set (x9_2 : Int).toNat (rd x0_2 (ji9))).set ((ji9) : Int).toNat (rd x0_2 x9_2)) a1 a2 l3 x8_1 ji9) else (slices_insertionSortCmpFunc_int.l0 k2 x0_2 a1 a2 l3 (wrap64 (x8_1 + 1)))) = some r := H
           have A12 := A_ A120
           clear A120
           by_cases c13 : t1027 < 0
           ·rw [if_pos c13] at H
            have c13b0 : decide (t1027 < 0) = true := decide_eq_true c13
            clear c13
            obtain ⟨y1030, hy1030⟩ : ∃ y_ : List Int, y_ = (x0_2.set (x9_2 : Int).toNat (rd x0_2 (ji9))) := ⟨_, rfl⟩
            replace H : (slices_insertionSortCmpFunc_int.l1 k2 (y1030.set ((ji9) : Int).toNat (rd x0_2 x9_2)) a1 a2 l3 x8_1 ji9) = some r := by rw [hy1030]; exact H
            have Ny1030 := A_ hy1030
            clear hy1030
            obtain ⟨y1031, hy1031⟩ : ∃ y_ : List Int, y_ = (y1030.set ((ji9) : Int).toNat (rd x0_2 x9_2)) := ⟨_, rfl⟩
            replace H : (slices_insertionSortCmpFunc_int.l1 k2 y1031 a1 a2 l3 x8_1 ji9) = some r := by rw [hy1031]; exact H
            have Ny1031 := A_ hy1031
            clear hy1031
            have H' := A_ H
            clear H
            try go_wp2
            replace HO_0 := A_ (Kd.R_drew HO_0.out)
            replace HK := A_ (Kept.drew HK.out)
            replace HB := A_ (below_drew1 HB.out)
            obtain ⟨Ao17, co17, eo17⟩ := Kd.R_slice HO_0.out
            (first | subst eo17 | (injection eo17 with f1_ f2_ f3_; have f4_ := f1_.symm; have f5_ := f3_.symm; clear f1_ f2_ f3_; subst f4_; subst f5_))
            have p1025 : 0 ≤ (x9_2 : Int) := of_decide_eq_true (by assumption)
            have q1025 : x9_2 < (x0_2.length : Int) := of_decide_eq_true (by assumption)
            obtain ⟨ad1025, e1025, hx1025_0⟩ := Kd.at_int (Kd.R_reads' HO_0.out).2.2 x9_2 p1025 q1025
            cases e1025
            replace p1025 := eq_true p1025
            replace q1025 := eq_true q1025
            have p1026 : 0 ≤ ((ji9) : Int) := of_decide_eq_true (by assumption)
            have q1026 : (ji9) < (x0_2.length : Int) := of_decide_eq_true (by assumption)
            obtain ⟨ad1026, e1026, hx1026_0⟩ := Kd.at_int (Kd.R_reads' HO_0.out).2.2 (ji9) p1026 q1026
            obtain rfl : ad1025 = ad1026 := (by injection e1026)
            replace p1026 := eq_true p1026
            replace q1026 := eq_true q1026
            refine start_ (n := 17) (S := fun w' => w'.cell? (ad1025.add (x9_2).toNat) = some (.int .i64 (rd x0_2 x9_2)) ∧ w'.cell? (ad1025.add ((ji9)).toNat) = some (.int .i64 (rd x0_2 (ji9)))) (ds := []) (ba 17 0) (by kernel_rfl) rfl rfl ⟨hx1025_0, hx1026_0⟩ (fun hHeld => ?_)
            generalize wr.drew = w16 at HO_0 HK HB hx1025_0 hx1026_0 hHeld ⊢
            refine pr 0 18 1 ?_
            refine pr 1 19 3 ?_
            refine pr 2 20 7 ?_
            refine pr 3 21 15 ?_
            refine pr 4 22 31 ?_
            refine pr 5 23 63 ?_
            refine pr 6 24 127 ?_
            refine pr 7 25 255 ?_
            refine pr 9 27 767 ?_
            refine pr 10 28 1791 ?_
            refine pr 11 29 3839 ?_
            refine pr 12 30 7935 ?_
            refine tr 8 26 8191 hHeld ?_
            refine tr 13 31 16383 hHeld ?_
            refine os 14 32 32767 (fun K hK => ?_)
            refine goesV_ Try.func114 (by kernel_rfl) rfl #[.int .i64 (rd x0_2 x9_2), .int .i64 (rd x0_2 (ji9))] #[.pointer (some ⟨gbF, 0, none⟩), .pointer (some ⟨gbL, 0, none⟩)] 22 (by rfl) rfl rfl rfl (by (try simp only [List.map_toArray, List.map_cons, List.map_nil]); first | done | (simp only [hji9]; rfl) | rfl | (simp only [List.length_drop, List.length_take]; rfl)) ?_
            simp only [List.append_toArray, List.cons_append, List.nil_append]
            with_reducible refine (api_Frac_1.calls k2 (rd x0_2 x9_2) (rd x0_2 (ji9)) 0 _ _ l3 t1027 _ gbF gbL (BKF.out _ HK.out) (BKL.out _ HK.out) NBFL.out ?side1 ?side2 A12.out).mono ?_
            (case side1 => exact Kd.C_kept_now HR3.out HK.out)
            (case side2 => exact HC3.out)
            rintro e w18 ⟨rfl, hb⟩
            have HS0_ := (hb.cell (World.block_lt_of_cell? _ _ (hHeld.1))).trans (hHeld.1)
            have HS1_ := (hb.cell (World.block_lt_of_cell? _ _ (hHeld.2))).trans (hHeld.2)
            refine ⟨_, rfl, ?_⟩
            replace HO_0 := rB HO_0 hb
            replace HK := A_ (Kept.below (S := (fun k_ => P0_ k_)) HK.out hb)
            replace HB := bB HB hb
            (try clear hb)
            (try clear hb2)
            (try clear hk)
            (try clear hi)
            refine hK.out _ _ ⟨HS0_, HS1_⟩ (fun hHeld => ?_)
            clear hK K
            refine nq 32 ?_
            refine pr 15 33 65535 ?_
            refine pr 16 34 131071 ?_
            refine done_ (by kernel_rfl) ?_
            try go_wp2
            replace HO_0 := A_ (Kd.R_drew HO_0.out)
            replace HK := A_ (Kept.drew HK.out)
            replace HB := A_ (below_drew1 HB.out)
            have p1028 : 0 ≤ ((ji9) : Int) := of_decide_eq_true (by assumption)
            have q1028 : (ji9) < (x0_2.length : Int) := of_decide_eq_true (by assumption)
            obtain ⟨ad1028, e1028, hx1028_0⟩ := Kd.at_int (Kd.R_reads' HO_0.out).2.2 (ji9) p1028 q1028
            obtain rfl : ad1025 = ad1028 := (by injection e1028)
            replace p1028 := eq_true p1028
            replace q1028 := eq_true q1028
            have p1029 : 0 ≤ (x9_2 : Int) := of_decide_eq_true (by assumption)
            have q1029 : x9_2 < (x0_2.length : Int) := of_decide_eq_true (by assumption)
            obtain ⟨ad1029, e1029, hx1029_0⟩ := Kd.at_int (Kd.R_reads' HO_0.out).2.2 x9_2 p1029 q1029
            obtain rfl : ad1025 = ad1029 := (by injection e1029)
            replace p1029 := eq_true p1029
            replace q1029 := eq_true q1029
            have p14 : 0 ≤ (x9_2 : Int) := of_decide_eq_true (by assumption)
            have q14 : (x9_2 : Int) < ((x0_2.length : Int) : Int) := of_decide_eq_true (by assumption)
            obtain ⟨go14, co14, eo14, gb14, gl14, cl14, HG14⟩ := Kd.R_form HO_0.out (by omega)
            (first | cases eo14 | (injection eo14 with ea_ en_ ec_; (first | subst ea_ | (injection ea_ with ea_; subst ea_)); subst ec_; clear en_))
            have GB14 := A_ gb14
            have GG14 := A_ HG14
            clear gb14 gl14 HG14
            have HMgo14 := A_ (show (P0_ go14 ∨ w.heap.size ≤ go14) from (HO_0.out.1 _ rfl))
            (first | simp only [add_plain] at hx1025_0 | skip)
            (first | simp only [add_plain] at hx1026_0 | skip)
            (first | simp only [add_plain] at hx1028_0 | skip)
            (first | simp only [add_plain] at hx1029_0 | skip)
            obtain ⟨hx14_0, hf14_0⟩ := Kd.R_celln 0 HO_0.out (x9_2 : Int) p14 q14
            replace p14 := eq_true p14
            replace q14 := eq_true q14
            have HP20 := Kd.R_putn HO_0.out (x9_2 : Int) (rd x0_2 (ji9))
            rw [← Ny1030.out] at HP20
            have HQ20 := A_ HP20
            clear HP20
            refine start_ (n := 18) (S := fun w' => w'.cell? ⟨go14, ((ji9)).toNat, none⟩ = some (.int .i64 (rd x0_2 (ji9))) ∧ w'.cell? ⟨go14, (x9_2).toNat, none⟩ = some (.int .i64 (rd x0_2 x9_2))) (ds := [15, 17]) (ba 18 0) (by kernel_rfl) rfl rfl ⟨hx1028_0, hx1029_0⟩ (fun hHeld => ?_)
            generalize w18.drew = w19 at HO_0 HK HB GG14 HQ20 hf14_0 hx1025_0 hx1026_0 hx1028_0 hx1029_0 hx14_0 hHeld ⊢
            refine pr 2 39 4 ?_
            refine pr 3 40 12 ?_
            refine pr 4 41 28 ?_
            refine pr 0 37 29 ?_
            refine pr 1 38 31 ?_
            refine pr 5 42 63 ?_
            refine pr 6 43 127 ?_
            refine pr 7 44 255 ?_
            refine pr 8 45 511 ?_
            refine pr 10 47 1535 ?_
            refine pr 11 48 3583 ?_
            refine pr 12 49 7679 ?_
            refine tr 9 46 8191 hHeld ?_
            refine tr 13 50 16383 hHeld ?_
            refine pr 14 51 32767 ?_
            refine last_ (i := 15) (N := none) (ba 18 65535) rfl rfl (by kernel_rfl) (by decide) (fun K hK => ?_)
            refine skip_ (w1 := ?_) (by rfl) rfl ?_ ?_
            rotate_left
            ·go_simp
             rfl
            refine hK.out _ _ ?_
            clear hK K
            have n0_ : Aside0 (Kd.R (Kd.int .i64) 3 (w19.setCell ⟨go14, (x9_2 : Int).toNat, none⟩ (.int .i64 (rd x0_2 (ji9)))) w0.heap.size (fun k_ => (P0_ k_ ∨ w.heap.size ≤ k_)) (.slice (some ⟨go14, 0, none⟩) x0_2.length co17) y1030) := ⟨by exact HQ20.out⟩
            have n1_ : Aside0 (Kept w (w19.setCell ⟨go14, (x9_2 : Int).toNat, none⟩ (.int .i64 (rd x0_2 (ji9)))) (fun k_ => P0_ k_)) := ⟨by repeat (first | (with_reducible first | exact HK.out | apply Kept.alloc | apply Kept.drewN | apply Kept.drew | refine Kept.setCell ?_ HMgo14.out _) | exact HK.out)⟩
            have n2_ : Aside0 (Below w0.heap.size w0 (w19.setCell ⟨go14, (x9_2 : Int).toNat, none⟩ (.int .i64 (rd x0_2 (ji9))))) := ⟨by repeat (first | (with_reducible first | exact HB.out | apply below_alloc | apply pw_below_drewN | apply below_drew1 | refine below_set ?_ GB14.out) | exact HB.out)⟩
            (try clear HO_0)
            (try clear HK)
            (try clear HB)
            generalize (w19.setCell ⟨go14, (x9_2 : Int).toNat, none⟩ (.int .i64 (rd x0_2 (ji9)))) = w21 at n0_ n1_ n2_ ⊢
            have HO_0 := n0_
            have HK := n1_
            have HB := n2_
            clear n0_ n1_ n2_
            have p15 : 0 ≤ ((ji9) : Int) := of_decide_eq_true (by assumption)
            have q15 : ((ji9) : Int) < ((x0_2.length : Int) : Int) := of_decide_eq_true (by assumption)
            obtain ⟨hx15_0, hf15_0⟩ := Kd.R_celln 0 HO_0.out ((ji9) : Int) p15 q15
            replace p15 := eq_true p15
            replace q15 := eq_true q15
            have HP23 := Kd.R_putn HO_0.out ((ji9) : Int) (rd x0_2 x9_2)
            rw [← Ny1031.out] at HP23
            have HQ23 := A_ HP23
            clear HP23
            refine pr 16 52 131071 ?_
            refine last_ (i := 17) (N := none) (ba 18 262143) rfl rfl (by kernel_rfl) (by decide) (fun K hK => ?_)
            refine skip_ (w1 := ?_) (by rfl) rfl ?_ ?_
            rotate_left
            ·go_simp
             rfl
            refine hK.out _ _ ?_
            clear hK K
            refine done_ (by kernel_rfl) ?_
            try go_wp2
            go_roundg k2
            case measure => have := HK1.out; have := HK2.out; omega
            case rel => exact ⟨(y1031), (ji9), (by first | rfl | (simp; done) | (simp only [← hji9] <;> (first | rfl | simp)) | (simp [*]; done)), H', ⟨by have := HK1.out; have := HK2.out; omega⟩, ⟨by exact HQ23.out⟩, ⟨by repeat (first | (with_reducible first | exact HK.out | apply Kept.alloc | apply Kept.drewN | apply Kept.drew | refine Kept.setCell ?_ HMgo14.out _) | exact HK.out)⟩, ⟨by repeat (first | (with_reducible first | exact HB.out | apply below_alloc | apply pw_below_drewN | apply below_drew1 | refine below_set ?_ GB14.out) | exact HB.out)⟩⟩
           ·rw [if_neg c13] at H
            have c13b0 : decide (t1027 < 0) = false := decide_eq_false c13
            clear c13
            have H' := A_ H
            clear H
            try go_wp2
            replace HO_0 := A_ (Kd.R_drew HO_0.out)
            replace HK := A_ (Kept.drew HK.out)
            replace HB := A_ (below_drew1 HB.out)
            obtain ⟨Ao25, co25, eo25⟩ := Kd.R_slice HO_0.out
            (first | subst eo25 | (injection eo25 with f1_ f2_ f3_; have f4_ := f1_.symm; have f5_ := f3_.symm; clear f1_ f2_ f3_; subst f4_; subst f5_))
            have p1025 : 0 ≤ (x9_2 : Int) := of_decide_eq_true (by assumption)
            have q1025 : x9_2 < (x0_2.length : Int) := of_decide_eq_true (by assumption)
            obtain ⟨ad1025, e1025, hx1025_0⟩ := Kd.at_int (Kd.R_reads' HO_0.out).2.2 x9_2 p1025 q1025
            cases e1025
            replace p1025 := eq_true p1025
            replace q1025 := eq_true q1025
            have p1026 : 0 ≤ ((ji9) : Int) := of_decide_eq_true (by assumption)
            have q1026 : (ji9) < (x0_2.length : Int) := of_decide_eq_true (by assumption)
            obtain ⟨ad1026, e1026, hx1026_0⟩ := Kd.at_int (Kd.R_reads' HO_0.out).2.2 (ji9) p1026 q1026
            obtain rfl : ad1025 = ad1026 := (by injection e1026)
            replace p1026 := eq_true p1026
            replace q1026 := eq_true q1026
            refine start_ (n := 17) (S := fun w' => w'.cell? (ad1025.add (x9_2).toNat) = some (.int .i64 (rd x0_2 x9_2)) ∧ w'.cell? (ad1025.add ((ji9)).toNat) = some (.int .i64 (rd x0_2 (ji9)))) (ds := []) (ba 17 0) (by kernel_rfl) rfl rfl ⟨hx1025_0, hx1026_0⟩ (fun hHeld => ?_)
            generalize wr.drew = w24 at HO_0 HK HB hx1025_0 hx1026_0 hHeld ⊢
            refine pr 0 18 1 ?_
            refine pr 1 19 3 ?_
            refine pr 2 20 7 ?_
            refine pr 3 21 15 ?_
            refine pr 4 22 31 ?_
            refine pr 5 23 63 ?_
            refine pr 6 24 127 ?_
            refine pr 7 25 255 ?_
            refine pr 9 27 767 ?_
            refine pr 10 28 1791 ?_
            refine pr 11 29 3839 ?_
            refine pr 12 30 7935 ?_
            refine tr 8 26 8191 hHeld ?_
            refine tr 13 31 16383 hHeld ?_
            refine os 14 32 32767 (fun K hK => ?_)
            refine goesV_ Try.func114 (by kernel_rfl) rfl #[.int .i64 (rd x0_2 x9_2), .int .i64 (rd x0_2 (ji9))] #[.pointer (some ⟨gbF, 0, none⟩), .pointer (some ⟨gbL, 0, none⟩)] 22 (by rfl) rfl rfl rfl (by (try simp only [List.map_toArray, List.map_cons, List.map_nil]); first | done | (simp only [hji9]; rfl) | rfl | (simp only [List.length_drop, List.length_take]; rfl)) ?_
            simp only [List.append_toArray, List.cons_append, List.nil_append]
            with_reducible refine (api_Frac_1.calls k2 (rd x0_2 x9_2) (rd x0_2 (ji9)) 0 _ _ l3 t1027 _ gbF gbL (BKF.out _ HK.out) (BKL.out _ HK.out) NBFL.out ?side1 ?side2 A12.out).mono ?_
            (case side1 => exact Kd.C_kept_now HR3.out HK.out)
            (case side2 => exact HC3.out)
            rintro e w26 ⟨rfl, hb⟩
            have HS0_ := (hb.cell (World.block_lt_of_cell? _ _ (hHeld.1))).trans (hHeld.1)
            have HS1_ := (hb.cell (World.block_lt_of_cell? _ _ (hHeld.2))).trans (hHeld.2)
            refine ⟨_, rfl, ?_⟩
            replace HO_0 := rB HO_0 hb
            replace HK := A_ (Kept.below (S := (fun k_ => P0_ k_)) HK.out hb)
            replace HB := bB HB hb
            (try clear hb)
            (try clear hb2)
            (try clear hk)
            (try clear hi)
            refine hK.out _ _ ⟨HS0_, HS1_⟩ (fun hHeld => ?_)
            clear hK K
            refine nq 32 ?_
            refine pr 15 33 65535 ?_
            refine pr 16 34 131071 ?_
            refine done_ (by kernel_rfl) ?_
            try go_wp2
            go_roundg k2
            case measure => have := HK1.out; have := HK2.out; omega
            case rel => exact ⟨(x0_2), (wrap64 (x8_1 + 1)), rfl, H', ⟨by have := HK1.out; have := HK2.out; omega⟩, ⟨by exact HO_0.out⟩, ⟨by repeat (first | (with_reducible first | exact HK.out | apply Kept.alloc | apply Kept.drewN | apply Kept.drew) | exact HK.out)⟩, ⟨by repeat (first | (with_reducible first | exact HB.out | apply below_alloc | apply pw_below_drewN | apply below_drew1) | exact HB.out)⟩⟩
          ·rw [if_neg c11] at H
           exact absurd H (by simp)
         ·rw [if_neg c10] at H
          exact absurd H (by simp)
        ·rw [if_neg c8] at H
         exact absurd H (by simp)
       ·rw [if_neg c7] at H
        exact absurd H (by simp)
      ·rw [if_neg c6] at H
       have c6b0 : decide (a1 < x9_2) = false := decide_eq_false c6
       clear c6
       have H' := A_ H
       clear H
       try go_wp2
       replace HO_0 := A_ (Kd.R_drew HO_0.out)
       replace HK := A_ (Kept.drew HK.out)
       replace HB := A_ (below_drew1 HB.out)
       refine start_ (n := 17) (S := fun w' => True) (ds := []) (ba 17 0) (by kernel_rfl) rfl rfl trivial (fun hHeld => ?_)
       generalize wr.drew = w27 at HO_0 HK HB hHeld ⊢
       refine pr 0 18 1 ?_
       refine pr 1 19 3 ?_
       refine pr 2 20 7 ?_
       refine pr 3 21 15 ?_
       refine pv 4 22 31 ?_
       refine pv 5 23 63 ?_
       refine pv 6 24 127 ?_
       refine pv 7 25 255 ?_
       refine pv 8 26 511 ?_
       refine pv 9 27 1023 ?_
       refine pv 10 28 2047 ?_
       refine pv 11 29 4095 ?_
       refine pv 12 30 8191 ?_
       refine pv 13 31 16383 ?_
       refine pv 14 32 32767 ?_
       refine pv 15 33 65535 ?_
       refine pr 16 34 131071 ?_
       refine done_ (by kernel_rfl) ?_
       try go_wp2
       go_roundg k2
       case measure => have := HK1.out; have := HK2.out; omega
       case rel => exact ⟨(x0_2), (wrap64 (x8_1 + 1)), rfl, H', ⟨by have := HK1.out; have := HK2.out; omega⟩, ⟨by exact HO_0.out⟩, ⟨by repeat (first | (with_reducible first | exact HK.out | apply Kept.alloc | apply Kept.drewN | apply Kept.drew) | exact HK.out)⟩, ⟨by repeat (first | (with_reducible first | exact HB.out | apply below_alloc | apply pw_below_drewN | apply below_drew1) | exact HB.out)⟩⟩
   ·rw [if_neg c5] at H
    have c5b0 : decide (x8_1 < a2) = false := decide_eq_false c5
    clear c5
    obtain rfl := Option.some.inj H
    go_wp2
    first | go_end0 | ((try simp only [Exit.inBlock, Exit.then]); refine bodyPost_ret (results_none rfl _ _ _) rfl ?_)
    exact ⟨rfl, by exact HO_0.out, by repeat (first | (with_reducible first | exact HB.out | apply below_alloc | apply pw_below_drewN | apply below_drew1) | exact HB.out), by repeat (first | (with_reducible first | exact HK.out | apply Kept.alloc | apply Kept.drewN | apply Kept.drew) | exact HK.out)⟩
end Go.Proofs.Ytjohcjfmlhihbaa.G

/- ### F127 -/
namespace Go.Proofs.Ytjohcjfmlhihbaa.G
open Go.RowKit Go.Proofs.YtjohcjfmlhihbaaW.PrintWords Go.Proofs.YtjohcjfmlhihbaaW.PrintLast Go.Proofs.YtjohcjfmlhihbaaW.PrintMore
attribute [local go_sem] cond_true cond_false fld23_0 fld23_1 fld45_0 fld45_1 fld109_0 fld109_1 fld94_0 fld94_1 max2_int min2_int max_two min_two max_three min_three max_four min_four   -- for this text's walks alone
set_option linter.unusedVariables false
set_option linter.unusedSimpArgs false
mutual
def slices_stableCmpFunc_int.l0 : Nat → List Int → Int → List (S23) → Int → Option (List Int)
 | 0, _, _, _, _ => none
 | k + 1, x0, x1, x2, x7 => (slices_insertionSortCmpFunc_int.f k x0 x7 x1 x2).bind fun t1032 => (slices_stableCmpFunc_int.l1 k t1032)
def slices_stableCmpFunc_int.l1 : Nat → List Int → Option (List Int)
 | 0, _ => none
 | k + 1, x0 => some x0
end
def slices_stableCmpFunc_int.f (k : Nat) (l0 : List Int) (a1 : Int) (l2 : List (S23)) : Option (List Int) := if a1 < 20 then slices_stableCmpFunc_int.l0 k l0 a1 l2 0 else none
theorem slices_stableCmpFunc_int.mono_l : ∀ k, (∀ y0 y1 y2 y3, LeO (slices_stableCmpFunc_int.l0 k y0 y1 y2 y3) (slices_stableCmpFunc_int.l0 (k + 1) y0 y1 y2 y3)) ∧ (∀ y0, LeO (slices_stableCmpFunc_int.l1 k y0) (slices_stableCmpFunc_int.l1 (k + 1) y0))
 | 0 => ⟨fun _ _ _ _ r h => by simp [slices_stableCmpFunc_int.l0] at h, fun _ r h => by simp [slices_stableCmpFunc_int.l1] at h⟩
 | k + 1 => by
  obtain ⟨ih0, ih1⟩ := slices_stableCmpFunc_int.mono_l k
  refine ⟨?_, ?_⟩
  ·intro y0 y1 y2 y3
   unfold slices_stableCmpFunc_int.l0
   repeat' first
   | (with_reducible exact ih0 _ _ _ _)
   | (with_reducible exact ih1 _)
   | (with_reducible exact slices_insertionSortCmpFunc_int.mono _ _ _ _ _)
   | (with_reducible exact LeO.refl _)
   | (with_reducible exact LeO.none _)
   | (with_reducible refine LeO.ite ?_ ?_)
   | (with_reducible refine LeO.bind ?_ (fun _ => ?_))
   | exact ih0 _ _ _ _
   | exact ih1 _
   | exact slices_insertionSortCmpFunc_int.mono _ _ _ _ _
   | exact LeO.none _
   | refine LeO.ite ?_ ?_
   | refine LeO.bind ?_ (fun _ => ?_)
  ·intro y0
   unfold slices_stableCmpFunc_int.l1
   repeat' first
   | (with_reducible exact ih0 _ _ _ _)
   | (with_reducible exact ih1 _)
   | (with_reducible exact slices_insertionSortCmpFunc_int.mono _ _ _ _ _)
   | (with_reducible exact LeO.refl _)
   | (with_reducible exact LeO.none _)
   | (with_reducible refine LeO.ite ?_ ?_)
   | (with_reducible refine LeO.bind ?_ (fun _ => ?_))
   | exact ih0 _ _ _ _
   | exact ih1 _
   | exact slices_insertionSortCmpFunc_int.mono _ _ _ _ _
   | exact LeO.none _
   | refine LeO.ite ?_ ?_
   | refine LeO.bind ?_ (fun _ => ?_)
theorem slices_stableCmpFunc_int.mono : ∀ a0 a1 a2 k, LeO (slices_stableCmpFunc_int.f k a0 a1 a2) (slices_stableCmpFunc_int.f (k + 1) a0 a1 a2) := by
 intro a0 a1 a2 k
 obtain ⟨ih0, ih1⟩ := slices_stableCmpFunc_int.mono_l k
 unfold slices_stableCmpFunc_int.f
 repeat' first
   | (with_reducible exact ih0 _ _ _ _)
   | (with_reducible exact ih1 _)
   | (with_reducible exact slices_insertionSortCmpFunc_int.mono _ _ _ _ _)
   | (with_reducible exact LeO.refl _)
   | (with_reducible exact LeO.none _)
   | (with_reducible refine LeO.ite ?_ ?_)
   | (with_reducible refine LeO.bind ?_ (fun _ => ?_))
   | exact ih0 _ _ _ _
   | exact ih1 _
   | exact slices_insertionSortCmpFunc_int.mono _ _ _ _ _
   | exact LeO.none _
   | refine LeO.ite ?_ ?_
   | refine LeO.bind ?_ (fun _ => ?_)
set_option maxHeartbeats 8000000 in
set_option maxRecDepth 100000 in
theorem slices_stableCmpFunc_int.calls (k : Nat) (P0_ : Nat → Prop) (u9000_ : Value) (l0 : List Int) (a1 : Int) (A2 : Option Addr) (c2 : Nat) (l2 : List (S23)) (r : List Int) (w0 w : World) (gbF gbL : Nat) (BK0 : ∀ W_, Kept w W_ (fun k_ => P0_ k_) → W_.heap[gbF]? = some (.cells #[.func (.func 85) #[] #[]] 123 (0, 0))) (BK1 : ∀ W_, Kept w W_ (fun k_ => P0_ k_) → W_.heap[gbL]? = some (.cells #[.slice A2 l2.length c2] 35 (0, 0))) (nb0 : gbF ≠ gbL) (hB : Below w0.heap.size w0 w) (ho0 : Kd.R (Kd.int .i64) 3 w w0.heap.size P0_ u9000_ l0) (hr2 : ∀ W_, Kept w W_ (fun k_ => P0_ k_) → Kd.C k23 W_ A2 l2.length l2) (hc2 : l2.length ≤ c2) (h : slices_stableCmpFunc_int.f k l0 a1 l2 = some r) :
  Calls Try.prog 127 #[u9000_, .int .i64 a1, .func (.func 114) #[] #[.pointer (some ⟨gbF, 0, none⟩), .pointer (some ⟨gbL, 0, none⟩)]] w fun e w' => e = .returned (.tuple #[]) ∧ Kd.R (Kd.int .i64) 3 w' w0.heap.size (fun k_ => (P0_ k_ ∨ w.heap.size ≤ k_)) u9000_ r ∧ Below w0.heap.size w0 w' ∧ Kept w w' (fun k_ => P0_ k_) := by
 have HO0 := Aside0.mk (show Kd.R (Kd.int .i64) 3 w w0.heap.size (fun k_ => (P0_ k_ ∨ w.heap.size ≤ k_)) u9000_ l0 from Kd.R_mono ho0 (fun k_ hk => (.inl hk)))
 have BKF := Aside0.mk BK0
 have BKL := Aside0.mk BK1
 have NBFL := Aside0.mk nb0
 clear BK0 BK1 nb0
 have HR2 := Aside0.mk hr2
 have HC2 := Aside0.mk hc2
 clear hr2 hc2
 have HK := Aside0.mk (Kept.refl w (fun k_ => P0_ k_))
 have HW0 := Aside0.mk hB.size
 have HB := Aside0.mk hB
 clear hB
 unfold slices_stableCmpFunc_int.f at h
 by_cases hlt20 : a1 < 20
 case neg => rw [if_neg hlt20] at h; cases h
 rw [if_pos hlt20] at h
 have d20a : decide (20 ≤ a1) = false := decide_eq_false (by omega)
 have d20b : decide (20 < a1) = false := decide_eq_false (by omega)
 clear hlt20
 have H : (slices_stableCmpFunc_int.l0 k l0 a1 l2 0) = some r := h
 clear h
 have H' := Aside0.mk H
 clear H
 go_enter Try.func127, Try.ntmps127
 go_wp2
 go_loopg [7, 8] k (fun kq v7 v8 w' => ∃ (x0_1 : List Int) (x7_1 : Int), v7 = .int .i64 x7_1 ∧ v8 = .int .i64 20 ∧ Aside0 (slices_stableCmpFunc_int.l0 kq x0_1 a1 l2 x7_1 = some r) ∧ Aside0 (kq ≤ k) ∧ Aside0 (Kd.R (Kd.int .i64) 3 w' w0.heap.size (fun k_ => (P0_ k_ ∨ w.heap.size ≤ k_)) u9000_ x0_1) ∧ Aside0 (Kept w w' (fun k_ => P0_ k_)) ∧ Aside0 (Below w0.heap.size w0 w'))
 case atStart => exact ⟨(l0), (0), (by first | rfl | (simp; done) | (simp [*]; done)), rfl, H', ⟨Nat.le_refl _⟩, ⟨by (with_reducible repeat (first | apply Kd.R_alloc | apply Kd.R_drewN | apply Kd.R_drew)); exact HO0.out⟩, ⟨by repeat (first | (with_reducible first | exact HK.out | apply Kept.alloc | apply Kept.drewN | apply Kept.drew) | exact HK.out)⟩, ⟨by repeat (first | (with_reducible first | exact HB.out | apply below_alloc | apply pw_below_drewN | apply below_drew1) | exact HB.out)⟩⟩
 case round =>
  clear H'
  try clear c1
  try clear c2
  try clear p2
  obtain ⟨x0_1, x7_1, rfl, rfl, HA, HK1, HO_0, HK, HB⟩ := hrel
  cases gk with
  | zero => exact absurd HA.out (by simp [slices_stableCmpFunc_int.l0])
  | succ k1 =>
   have H := HA.out
   clear HA
   simp only [slices_stableCmpFunc_int.l0] at H
   replace H := Option.bind_eq_some_iff.mp H
   obtain ⟨t1032, A40, H⟩ := H
   replace H : (slices_stableCmpFunc_int.l1 k1 t1032) = some r := H
   have A4 := Aside0.mk A40
   clear A40
   have H' := Aside0.mk H
   clear H
   obtain ⟨Ao5, co5, eo5⟩ := Kd.R_slice HO_0.out
   subst eo5
   go_wp2_with fail
   refine (slices_insertionSortCmpFunc_int.calls k1 (fun k_ => some k_ = (.slice Ao5 x0_1.length co5 : Value).ownBlock) (.slice Ao5 x0_1.length co5) x0_1 x7_1 a1 _ _ l2 t1032 w0 _ gbF gbL (fun W_ hk_ => BKF.out W_ (Kept.then_ (S := (fun k_ => P0_ k_)) (by repeat (first | (with_reducible first | exact HK.out | apply Kept.alloc | apply Kept.drewN | apply Kept.drew) | exact HK.out)) hk_ (fun k_ hs_ => (fun e_ => (HO_0.out.1 k_ e_.symm)) hs_))) (fun W_ hk_ => BKL.out W_ (Kept.then_ (S := (fun k_ => P0_ k_)) (by repeat (first | (with_reducible first | exact HK.out | apply Kept.alloc | apply Kept.drewN | apply Kept.drew) | exact HK.out)) hk_ (fun k_ hs_ => (fun e_ => (HO_0.out.1 k_ e_.symm)) hs_))) NBFL.out ?side1 ?side2 ?side3 ?side4 A4.out).mono ?_
   case side1 => repeat (first | (with_reducible first | exact HB.out | apply below_alloc | apply pw_below_drewN | apply below_drew1) | exact HB.out)
   case side2 => exact Kd.R_tight rfl HO_0.out
   case side3 => exact Kd.C_kept_call HR2.out (by repeat (first | (with_reducible first | exact HK.out | apply Kept.alloc | apply Kept.drewN | apply Kept.drew) | exact HK.out)) (fun k_ hs_ => (fun e_ => (HO_0.out.1 k_ e_.symm)) hs_)
   case side4 => exact HC2.out
   rintro e w6 ⟨rfl, hy0, hb, hkp⟩
   have n0_ := Aside0.mk (Kd.R_reok rfl hy0 (fun k_ e_ => HO_0.out.1 k_ e_))
   have n1_ := Aside0.mk (Kept.then_ (S := (fun k_ => P0_ k_)) (by repeat (first | (with_reducible first | exact HK.out | apply Kept.alloc | apply Kept.drewN | apply Kept.drew) | exact HK.out)) hkp (fun k_ hs_ => (fun e_ => (HO_0.out.1 k_ e_.symm)) hs_))
   have n2_ := Aside0.mk (hb)
   clear HO_0
   clear HK
   clear HB
   have HO_0 := n0_
   have HK := n1_
   have HB := n2_
   clear n0_ n1_ n2_
   (try clear hb)
   (try clear hkp)
   (try clear hy0)
   go_wp2_with fail
   go_loopg [6] k1 (fun kq v6 w' => v6 = .int .i64 20 ∧ Aside0 (slices_stableCmpFunc_int.l1 kq t1032 = some r) ∧ Aside0 (kq ≤ k1) ∧ Aside0 (Kd.R (Kd.int .i64) 3 w' w0.heap.size (fun k_ => (P0_ k_ ∨ w.heap.size ≤ k_)) (.slice Ao5 x0_1.length co5) t1032) ∧ Aside0 (Kept w w' (fun k_ => P0_ k_)) ∧ Aside0 (Below w0.heap.size w0 w'))
   case atStart => exact ⟨rfl, H', ⟨Nat.le_refl _⟩, ⟨by (with_reducible repeat (first | apply Kd.R_alloc | apply Kd.R_drewN | apply Kd.R_drew)); exact HO_0.out⟩, ⟨by repeat (first | (with_reducible first | exact HK.out | apply Kept.alloc | apply Kept.drewN | apply Kept.drew) | exact HK.out)⟩, ⟨by repeat (first | (with_reducible first | exact HB.out | apply below_alloc | apply pw_below_drewN | apply below_drew1) | exact HB.out)⟩⟩
   case round =>
    clear H'
    try clear c1
    try clear c2
    try clear p2
    try clear p2
    obtain ⟨rfl, HA, HK2, HO_0, HK, HB⟩ := hrel
    have hl0_2 := (Kd.R_reads' HO_0.out).1
    rw [hl0_2] at HO_0
    (try simp only [hl0_2])
    cases gk with
    | zero => exact absurd HA.out (by simp [slices_stableCmpFunc_int.l1])
    | succ k2 =>
     have H := HA.out
     clear HA
     simp only [slices_stableCmpFunc_int.l1] at H
     obtain rfl := Option.some.inj H
     go_wp2
     first | go_end0 | ((try simp only [Exit.inBlock, Exit.then]); refine bodyPost_ret (results_none rfl _ _ _) rfl ?_)
     exact ⟨by first | rfl | (simp [errW_none, errW_some] <;> rfl) | (simp [*, errW_none, errW_some] <;> rfl), (by first | exact (by (with_reducible repeat (first | apply Kd.R_alloc | apply Kd.R_drewN | apply Kd.R_drew)); exact HO_0.out) | (simp only [hl0_2]; exact (by (with_reducible repeat (first | apply Kd.R_alloc | apply Kd.R_drewN | apply Kd.R_drew)); exact HO_0.out))), by repeat (first | (with_reducible first | exact HB.out | apply below_alloc | apply pw_below_drewN | apply below_drew1) | exact HB.out), by repeat (first | (with_reducible first | exact HK.out | apply Kept.alloc | apply Kept.drewN | apply Kept.drew) | exact HK.out)⟩
end Go.Proofs.Ytjohcjfmlhihbaa.G

/- ### F113 -/
namespace Go.Proofs.Ytjohcjfmlhihbaa.G
open Go.RowKit Go.Proofs.YtjohcjfmlhihbaaW.PrintWords Go.Proofs.YtjohcjfmlhihbaaW.PrintLast Go.Proofs.YtjohcjfmlhihbaaW.PrintMore
attribute [local go_sem] cond_true cond_false fld23_0 fld23_1 fld45_0 fld45_1 fld109_0 fld109_1 fld94_0 fld94_1 max2_int min2_int max_two min_two max_three min_three max_four min_four   -- for this text's walks alone
set_option linter.unusedVariables false
set_option linter.unusedSimpArgs false
def slices_SortStableFunc_int_int.f (k : Nat) (l0 : List Int) (l1 : List (S23)) : Option (List Int) := (slices_stableCmpFunc_int.f k l0 (l0.length : Int) l1).bind fun t1033 => (some t1033)
theorem slices_SortStableFunc_int_int.mono : ∀ a0 a1 k, LeO (slices_SortStableFunc_int_int.f k a0 a1) (slices_SortStableFunc_int_int.f (k + 1) a0 a1) := by
 intro a0 a1 k
 unfold slices_SortStableFunc_int_int.f
 repeat' first
   | (with_reducible exact slices_stableCmpFunc_int.mono _ _ _ _)
   | (with_reducible exact LeO.refl _)
   | (with_reducible exact LeO.none _)
   | (with_reducible refine LeO.ite ?_ ?_)
   | (with_reducible refine LeO.bind ?_ (fun _ => ?_))
   | exact slices_stableCmpFunc_int.mono _ _ _ _
   | exact LeO.none _
   | refine LeO.ite ?_ ?_
   | refine LeO.bind ?_ (fun _ => ?_)
set_option maxHeartbeats 8000000 in
set_option maxRecDepth 100000 in
theorem slices_SortStableFunc_int_int.calls (k : Nat) (P0_ : Nat → Prop) (u9000_ : Value) (l0 : List Int) (A1 : Option Addr) (c1 : Nat) (l1 : List (S23)) (r : List Int) (w0 w : World) (gbF gbL : Nat) (BK0 : ∀ W_, Kept w W_ (fun k_ => P0_ k_) → W_.heap[gbF]? = some (.cells #[.func (.func 85) #[] #[]] 123 (0, 0))) (BK1 : ∀ W_, Kept w W_ (fun k_ => P0_ k_) → W_.heap[gbL]? = some (.cells #[.slice A1 l1.length c1] 35 (0, 0))) (nb0 : gbF ≠ gbL) (hB : Below w0.heap.size w0 w) (ho0 : Kd.R (Kd.int .i64) 3 w w0.heap.size P0_ u9000_ l0) (hr1 : ∀ W_, Kept w W_ (fun k_ => P0_ k_) → Kd.C k23 W_ A1 l1.length l1) (hc1 : l1.length ≤ c1) (h : slices_SortStableFunc_int_int.f k l0 l1 = some r) :
  Calls Try.prog 113 #[u9000_, .func (.func 114) #[] #[.pointer (some ⟨gbF, 0, none⟩), .pointer (some ⟨gbL, 0, none⟩)]] w fun e w' => e = .returned (.tuple #[]) ∧ Kd.R (Kd.int .i64) 3 w' w0.heap.size (fun k_ => (P0_ k_ ∨ w.heap.size ≤ k_)) u9000_ r ∧ Below w0.heap.size w0 w' ∧ Kept w w' (fun k_ => P0_ k_) := by
 have HO0 := Aside0.mk (show Kd.R (Kd.int .i64) 3 w w0.heap.size (fun k_ => (P0_ k_ ∨ w.heap.size ≤ k_)) u9000_ l0 from Kd.R_mono ho0 (fun k_ hk => (.inl hk)))
 have BKF := Aside0.mk BK0
 have BKL := Aside0.mk BK1
 have NBFL := Aside0.mk nb0
 clear BK0 BK1 nb0
 have HR1 := Aside0.mk hr1
 have HC1 := Aside0.mk hc1
 clear hr1 hc1
 have HK := Aside0.mk (Kept.refl w (fun k_ => P0_ k_))
 have HW0 := Aside0.mk hB.size
 have HB := Aside0.mk hB
 clear hB
 have H : ((slices_stableCmpFunc_int.f k l0 (l0.length : Int) l1).bind fun t1033 => (some t1033)) = some r := h
 clear h
 replace H := Option.bind_eq_some_iff.mp H
 obtain ⟨t1033, A30, H⟩ := H
 replace H : (some t1033) = some r := H
 have A3 := Aside0.mk A30
 clear A30
 obtain rfl := Option.some.inj H
 obtain ⟨Ao4, co4, eo4⟩ := Kd.R_slice HO0.out
 subst eo4
 go_enter Try.func113, Try.ntmps113
 go_wp2_with fail
 refine (slices_stableCmpFunc_int.calls k (fun k_ => some k_ = (.slice Ao4 l0.length co4 : Value).ownBlock) (.slice Ao4 l0.length co4) l0 (l0.length : Int) _ _ l1 t1033 w0 _ gbF gbL (fun W_ hk_ => BKF.out W_ (Kept.then_ (S := (fun k_ => P0_ k_)) (by repeat (first | (with_reducible first | exact HK.out | apply Kept.alloc | apply Kept.drewN | apply Kept.drew) | exact HK.out)) hk_ (fun k_ hs_ => (fun e_ => (HO0.out.1 k_ e_.symm)) hs_))) (fun W_ hk_ => BKL.out W_ (Kept.then_ (S := (fun k_ => P0_ k_)) (by repeat (first | (with_reducible first | exact HK.out | apply Kept.alloc | apply Kept.drewN | apply Kept.drew) | exact HK.out)) hk_ (fun k_ hs_ => (fun e_ => (HO0.out.1 k_ e_.symm)) hs_))) NBFL.out ?side1 ?side2 ?side3 ?side4 A3.out).mono ?_
 case side1 => repeat (first | (with_reducible first | exact HB.out | apply below_alloc | apply pw_below_drewN | apply below_drew1) | exact HB.out)
 case side2 => exact Kd.R_tight rfl HO0.out
 case side3 => exact Kd.C_kept_call HR1.out (by repeat (first | (with_reducible first | exact HK.out | apply Kept.alloc | apply Kept.drewN | apply Kept.drew) | exact HK.out)) (fun k_ hs_ => (fun e_ => (HO0.out.1 k_ e_.symm)) hs_)
 case side4 => exact HC1.out
 rintro e w5 ⟨rfl, hy0, hb, hkp⟩
 have n0_ := Aside0.mk (Kd.R_reok rfl hy0 (fun k_ e_ => HO0.out.1 k_ e_))
 have n1_ := Aside0.mk (Kept.then_ (S := (fun k_ => P0_ k_)) (by repeat (first | (with_reducible first | exact HK.out | apply Kept.alloc | apply Kept.drewN | apply Kept.drew) | exact HK.out)) hkp (fun k_ hs_ => (fun e_ => (HO0.out.1 k_ e_.symm)) hs_))
 have n2_ := Aside0.mk (hb)
 clear HO0
 clear HK
 clear HB
 have HO0 := n0_
 have HK := n1_
 have HB := n2_
 clear n0_ n1_ n2_
 (try clear hb)
 (try clear hkp)
 (try clear hy0)
 go_wp2_with fail
 first | go_end0 | ((try simp only [Exit.inBlock, Exit.then]); refine bodyPost_ret (results_none rfl _ _ _) rfl ?_)
 exact ⟨by first | rfl | (simp [errW_none, errW_some] <;> rfl) | (simp [*, errW_none, errW_some] <;> rfl), by (with_reducible repeat (first | apply Kd.R_alloc | apply Kd.R_drewN | apply Kd.R_drew)); exact HO0.out, by repeat (first | (with_reducible first | exact HB.out | apply below_alloc | apply pw_below_drewN | apply below_drew1) | exact HB.out), by repeat (first | (with_reducible first | exact HK.out | apply Kept.alloc | apply Kept.drewN | apply Kept.drew) | exact HK.out)⟩
end Go.Proofs.Ytjohcjfmlhihbaa.G

/- ### F84085 -/
namespace Go.Proofs.Ytjohcjfmlhihbaa.G
open Go.RowKit Go.Proofs.YtjohcjfmlhihbaaW.PrintWords Go.Proofs.YtjohcjfmlhihbaaW.PrintLast Go.Proofs.YtjohcjfmlhihbaaW.PrintMore
attribute [local go_sem] cond_true cond_false fld23_0 fld23_1 fld45_0 fld45_1 fld109_0 fld109_1 fld94_0 fld94_1 max2_int min2_int max_two min_two max_three min_three max_four min_four   -- for this text's walks alone
set_option linter.unusedVariables false
set_option linter.unusedSimpArgs false
def by_compare.l0 : Nat → List Int → Int → Int → List (S23) → Option (List Int)
 | 0, _, _, _, _ => none
 | k + 1, x5, x8, x9, x1035000 => if x9 < x8 then (if x5.length < 17592186044416 then (by_compare.l0 k (x5 ++ [x9]) x8 (wrap64 (x9 + 1)) x1035000) else (none)) else ((slices_SortStableFunc_int_int.f k x5 x1035000).bind fun t1039 => (some t1039))
def by_compare.f (k : Nat) (l0 : List (S23)) : Option (List Int) := by_compare.l0 k ([] : List Int) (l0.length : Int) 0 l0
theorem by_compare.mono_l : ∀ k, (∀ y0 y1 y2 y3, LeO (by_compare.l0 k y0 y1 y2 y3) (by_compare.l0 (k + 1) y0 y1 y2 y3))
 | 0 => fun _ _ _ _ r h => by simp [by_compare.l0] at h
 | k + 1 => by
  have ih0 := by_compare.mono_l k
  ·intro y0 y1 y2 y3
   unfold by_compare.l0
   repeat' first
   | (with_reducible exact ih0 _ _ _ _)
   | (with_reducible exact slices_SortStableFunc_int_int.mono _ _ _)
   | (with_reducible exact LeO.refl _)
   | (with_reducible exact LeO.none _)
   | (with_reducible refine LeO.ite ?_ ?_)
   | (with_reducible refine LeO.bind ?_ (fun _ => ?_))
   | exact ih0 _ _ _ _
   | exact slices_SortStableFunc_int_int.mono _ _ _
   | exact LeO.none _
   | refine LeO.ite ?_ ?_
   | refine LeO.bind ?_ (fun _ => ?_)
theorem by_compare.mono : ∀ a0 k, LeO (by_compare.f k a0) (by_compare.f (k + 1) a0) := by
 intro a0 k
 have ih0 := by_compare.mono_l k
 unfold by_compare.f
 repeat' first
   | (with_reducible exact ih0 _ _ _ _)
   | (with_reducible exact slices_SortStableFunc_int_int.mono _ _ _)
   | (with_reducible exact LeO.refl _)
   | (with_reducible exact LeO.none _)
   | (with_reducible refine LeO.ite ?_ ?_)
   | (with_reducible refine LeO.bind ?_ (fun _ => ?_))
   | exact ih0 _ _ _ _
   | exact slices_SortStableFunc_int_int.mono _ _ _
   | exact LeO.none _
   | refine LeO.ite ?_ ?_
   | refine LeO.bind ?_ (fun _ => ?_)
set_option maxHeartbeats 8000000 in
set_option maxRecDepth 100000 in
theorem by_compare.calls (k : Nat) (A0 : Option Addr) (c0 : Nat) (l0 : List (S23)) (r : List Int) (w : World) (hr0 : Kd.C k23 w A0 l0.length l0) (hc0 : l0.length ≤ c0) (h : by_compare.f k l0 = some r) :
  Calls Try.prog 84 #[.slice A0 l0.length c0, .func (.func 85) #[] #[]] w fun e w' => ∃ v0_ : Value, e = .returned (v0_) ∧ Kd.R (Kd.int .i64) 3 w' w.heap.size (fun _ => True) v0_ r ∧ Below w.heap.size w w' := by
 have HR0 := A_ hr0
 have HC0 := A_ hc0
 clear hr0 hc0
 have HB := A_ (Below.refl w.heap.size w)
 have H : (by_compare.l0 k ([] : List Int) (l0.length : Int) 0 l0) = some r := h
 clear h
 have H' := A_ H
 clear H
 go_enter Try.func84, Try.ntmps84
 go_wp2_with (first | ((with_reducible refine gate_dst (N := 2) rfl ?_); refine box_event ?hg (N := 2) ?hd (cs := #[.slice A0 l0.length c0]) (t := 35) ?hr ?_; (case hd => rfl); (case hg => rfl); (case hr => first | (go_simp; done) | (go_simp; rfl)); intro gb1034 hg w2 hbox hb; have BK1034 := A_ hbox; have GW1034 := gw hg HB; have GE1034 := GW1034; replace HB := bB HB hb; clear hb hbox hg) | ((with_reducible refine gate_dst (N := 3) rfl ?_); refine box_event ?hg (N := 3) ?hd (cs := #[.func (.func 85) #[] #[]]) (t := 123) ?hr ?_; (case hd => rfl); (case hg => rfl); (case hr => first | (go_simp; done) | (go_simp; rfl)); intro gb1035 hg w3 hbox hb; have BK1035 := A_ hbox; have GW1035 := gw hg HB; have GE1035 := GW1035; have NB1034_1035 := nl hg BK1034; have NB1035_1034 := ng hg BK1034; replace BK1034 := kB BK1034 hb; replace HB := bB HB hb; clear hb hbox hg; have hnb4 := NB1034_1035.out; have hnc4 := NB1035_1034.out; have hcz5_0 : w3.cell? ⟨gb1034, 0, none⟩ = some (.slice A0 l0.length c0) := cz BK1034 0; have hfz5_0 := blk_frozen BK1034.out 0))
 go_loopg [5, 9] k (fun kq v5 v9 w' => ∃ (x5_1 : List Int) (x9_1 : Int), v9 = .int .i64 x9_1 ∧ Aside0 (by_compare.l0 kq x5_1 (l0.length : Int) x9_1 l0 = some r) ∧ Aside0 (kq ≤ k) ∧ Aside0 (Kd.R (Kd.int .i64) 3 w' w.heap.size (fun _ => True) v5 x5_1) ∧ Aside0 (w'.heap[gb1034]? = some (.cells #[(.slice A0 l0.length c0)] 35 (0, 0))) ∧ Aside0 (w'.heap[gb1035]? = some (.cells #[.func (.func 85) #[] #[]] 123 (0, 0))) ∧ Aside0 (Below w.heap.size w w'))
 case atStart => exact ⟨(([] : List Int)), (0), (by first | rfl | (simp; done) | (simp [*]; done)), H', ⟨Nat.le_refl _⟩, ⟨by first | exact Kd.R_nil _ _ _ _ _ | exact Kd.N_nil _ _ _ _ _ | exact Kd.V_nil _ _ _ _ _ | exact Kd.Q_nil _ _ _ _ _ | exact Kd.S_nil _ _ _ _ _⟩, ⟨by (with_reducible repeat (first | refine blk_drewN ?_ _ | refine blk_drew ?_ | refine blk_alloc ?_ _)); exact BK1034.out⟩, ⟨by (with_reducible repeat (first | refine blk_drewN ?_ _ | refine blk_drew ?_ | refine blk_alloc ?_ _)); exact BK1035.out⟩, ⟨by repeat (first | (with_reducible first | exact HB.out | apply below_alloc | apply pw_below_drewN | apply below_drew1 | refine below_set ?_ GE1034.out | refine below_set ?_ GE1035.out) | exact HB.out)⟩⟩
 case round =>
  clear H'
  try clear p2
  try clear c4
  try clear hcz5_0
  try clear hfz5_0
  obtain ⟨x5_1, x9_1, rfl, HA, HK1, HO_5, BK1034, BK1035, HB⟩ := hrel
  cases gk with
  | zero => exact absurd HA.out (by simp [by_compare.l0])
  | succ k1 =>
   have H := HA.out
   clear HA
   simp only [by_compare.l0] at H
   by_cases c6 : x9_1 < (l0.length : Int)
   ·rw [if_pos c6] at H
    have c6b0 : decide (x9_1 < (l0.length : Int)) = true := decide_eq_true c6
    clear c6
    by_cases c7 : x5_1.length < 17592186044416
    ·rw [if_pos c7] at H
     have LMc7 := A_ c7
     clear c7
     obtain ⟨y1036, hy1036⟩ : ∃ y_ : List Int, y_ = (x5_1 ++ [x9_1]) := ⟨_, rfl⟩
     replace H : (by_compare.l0 k1 y1036 (l0.length : Int) (wrap64 (x9_1 + 1)) l0) = some r := by first | (rw [hy1036]; with_reducible exact H) | (have H2_ := (Option.bind_some _ _).symm.trans H; rw [hy1036]; with_reducible exact H2_) | (have H2_ := (Option.bind_some _ _).symm.trans H; with_reducible exact H2_) | with_reducible exact H | (rw [hy1036]; exact H) | exact H
     have Ny1036 := A_ hy1036
     clear hy1036
     have H' := A_ H
     clear H
     go_wp2_with (first | ((with_reducible refine gate_builtin (b := .append) (xs := #[.tmp 12, .tmp 14]) rfl ?_); at_builtin; refine Kd.R_append (Kd.int .i64) (w0 := w) w.heap.size rfl (.tmp 12) (.tmp 14) 28 3 (.int .i64 0) 8 rfl Try.underlying28 info3 rfl (by decide) (by omega) u5 x5_1 x9_1 [.int .i64 x9_1] (fun _ => True) (fun _ => False) rfl rfl ?aP (fun _ hk => hk.elim) ?aF ?aO ?aB ?aS ?aL ?_; (case aP => exact rfl); (case aB => exact (bl HB)); (case aF => exact (fun _ _ => trivial)); (case aO => exact (rs HO_5)); (case aS => exact (below_size (bl HB))); (case aL => have := LMc7.out; omega); intro v1037 w8 ho hb hg hat; rw [← Ny1036.out] at ho; have HO1038 := A_ ho; replace BK1034 := A_ (blk_grown (g := gb1034) (o := .cells #[.slice A0 l0.length c0] 35 (0, 0)) (kb BK1034) hg (Kd.R_ne HO_5.out BK1034.out (by decide))); replace BK1035 := A_ (blk_grown (g := gb1035) (o := .cells #[.func (.func 85) #[] #[]] 123 (0, 0)) (kb BK1035) hg (Kd.R_ne HO_5.out BK1035.out (by decide))); replace HB := A_ hb; clear HO_5; clear ho hb hg hat))
     go_roundg k1
     case measure => have := HK1.out; omega
     case rel => exact ⟨(y1036), (wrap64 (x9_1 + 1)), (by first | rfl | (simp; done) | (simp [*]; done)), H', ⟨by have := HK1.out; omega⟩, ⟨by (with_reducible repeat (first | apply Kd.R_alloc | apply Kd.R_drewN | apply Kd.R_drew)); exact HO1038.out⟩, ⟨by (with_reducible repeat (first | refine blk_drewN ?_ _ | refine blk_drew ?_ | refine blk_alloc ?_ _)); exact BK1034.out⟩, ⟨by (with_reducible repeat (first | refine blk_drewN ?_ _ | refine blk_drew ?_ | refine blk_alloc ?_ _)); exact BK1035.out⟩, ⟨by repeat (first | (with_reducible first | exact HB.out | apply below_alloc | apply pw_below_drewN | apply below_drew1 | refine below_set ?_ GE1034.out | refine below_set ?_ GE1035.out) | exact HB.out)⟩⟩
    ·rw [if_neg c7] at H
     exact absurd H (by simp)
   ·rw [if_neg c6] at H
    have c6b0 : decide (x9_1 < (l0.length : Int)) = false := decide_eq_false c6
    clear c6
    replace H := Option.bind_eq_some_iff.mp H
    obtain ⟨t1039, A90, H⟩ := H
    replace H : (some t1039) = some r := H
    have A9 := A_ A90
    clear A90
    obtain rfl := Option.some.inj H
    have hnb10 := NB1034_1035.out
    have hnc10 := NB1035_1034.out
    have hcz11_0 : wr.cell? ⟨gb1034, 0, none⟩ = some (.slice A0 l0.length c0) := cz BK1034 0
    have hfz11_0 := blk_frozen BK1034.out 0
    obtain ⟨Ao12, co12, eo12⟩ := Kd.R_slice HO_5.out
    subst eo12
    go_wp2_with fail
    refine (slices_SortStableFunc_int_int.calls k1 (fun k_ => some k_ = (.slice Ao12 x5_1.length co12 : Value).ownBlock) (.slice Ao12 x5_1.length co12) x5_1 _ _ l0 t1039 w _ gb1035 gb1034 (fun W_ hk_ => blk_kept (kb BK1035) hk_ (fun hs_ => (fun e_ => (Kd.R_ne HO_5.out BK1035.out (by decide)) e_) hs_)) (fun W_ hk_ => blk_kept (kb BK1034) hk_ (fun hs_ => (fun e_ => (Kd.R_ne HO_5.out BK1034.out (by decide)) e_) hs_)) NB1035_1034.out ?side1 ?side2 ?side3 ?side4 A9.out).mono ?_
    case side1 => repeat (first | (with_reducible first | exact HB.out | apply below_alloc | apply pw_below_drewN | apply below_drew1 | refine below_set ?_ GE1034.out | refine below_set ?_ GE1035.out) | exact HB.out)
    case side2 => exact Kd.R_tight rfl HO_5.out
    case side3 => exact Kd.C_kept_came k23_heap HR0.out (bl HB) (fun k_ hs_ => (fun e_ => Kd.R_base HO_5.out k_ e_.symm) hs_)
    case side4 => exact HC0.out
    rintro e w13 ⟨rfl, hy0, hb, hkp⟩
    replace BK1034 := A_ (blk_kept (kb BK1034) hkp (fun hs_ => (fun e_ => (Kd.R_ne HO_5.out BK1034.out (by decide)) e_) hs_))
    replace BK1035 := A_ (blk_kept (kb BK1035) hkp (fun hs_ => (fun e_ => (Kd.R_ne HO_5.out BK1035.out (by decide)) e_) hs_))
    replace HO_5 := A_ (Kd.R_reok rfl hy0 (fun k_ e_ => HO_5.out.1 k_ e_))
    replace HB := A_ hb
    (try clear hb)
    (try clear hkp)
    (try clear hy0)
    go_wp2_with fail
    go_ret
    exact ⟨_, by first | rfl | (simp [errW_none, errW_some] <;> rfl) | (simp [*, errW_none, errW_some] <;> rfl), by (with_reducible repeat (first | apply Kd.R_alloc | apply Kd.R_drewN | apply Kd.R_drew)); exact HO_5.out, by repeat (first | (with_reducible first | exact HB.out | apply below_alloc | apply pw_below_drewN | apply below_drew1 | refine below_set ?_ GE1034.out | refine below_set ?_ GE1035.out) | exact HB.out)⟩
end Go.Proofs.Ytjohcjfmlhihbaa.G

/- ### F122 -/
namespace Go.Proofs.Ytjohcjfmlhihbaa.G
open Go.RowKit Go.Proofs.YtjohcjfmlhihbaaW.PrintWords Go.Proofs.YtjohcjfmlhihbaaW.PrintLast Go.Proofs.YtjohcjfmlhihbaaW.PrintMore
attribute [local go_sem] cond_true cond_false fld23_0 fld23_1 fld45_0 fld45_1 fld109_0 fld109_1 fld94_0 fld94_1 max2_int min2_int max_two min_two max_three min_three max_four min_four   -- for this text's walks alone
set_option linter.unusedVariables false
set_option linter.unusedSimpArgs false
def shares_equal.l0 : Nat → List (S23) → List (S23) → Int → List Int → Int → Int → Int → Int → Option ((List (S23)))
 | 0, _, _, _, _, _, _, _, _ => none
 | k + 1, x0, x5, x6, x15, x16, x17, x1558000, x1558001 => if x17 < x16 then (if 0 ≤ x17 then (if x17 < (x15.length : Int) then (if 0 ≤ (rd x15 x17) then (if (rd x15 x17) < (x0.length : Int) then ((shares_over.f k x1558000 x1558001 x6).bind fun bt1566 => ((shares_smaller.f k ((rd_T23 x0 (rd x15 x17)).f0) ((rd_T23 x0 (rd x15 x17)).f1) bt1566.1 bt1566.2).bind fun bt1568 => (if (rd x15 x17) < (x5.length : Int) then ((some (x5.set ((rd x15 x17) : Int).toNat (⟨bt1568.1, bt1568.2⟩ : S23) : List (S23))).bind fun y1570 => ((shares_minus.f k x1558000 x1558001 ((rd_T23 y1570 (rd x15 x17)).f0) ((rd_T23 y1570 (rd x15 x17)).f1)).bind fun bt1572 => (shares_equal.l0 k x0 y1570 (wrap64 (x6 - 1)) x15 x16 (wrap64 (x17 + 1)) bt1572.1 bt1572.2))) else (none)))) else (none)) else (none)) else (none)) else (none)) else (some x5)
def shares_equal.f (k : Nat) (l0 : List (S23)) (a1_0 : Int) (a1_1 : Int) : Option ((List (S23))) := if 0 ≤ (l0.length : Int) then (if ((l0.length : Int) : Int).toNat ≤ 17592186044416 then ((by_compare.f k l0).bind fun t1561 => (shares_equal.l0 k l0 (List.replicate ((l0.length : Int) : Int).toNat z23) (l0.length : Int) t1561 (t1561.length : Int) 0 a1_0 a1_1)) else (none)) else (none)
theorem shares_equal.mono_l : ∀ k, (∀ y0 y1 y2 y3 y4 y5 y6 y7, LeO (shares_equal.l0 k y0 y1 y2 y3 y4 y5 y6 y7) (shares_equal.l0 (k + 1) y0 y1 y2 y3 y4 y5 y6 y7))
 | 0 => fun _ _ _ _ _ _ _ _ r h => by simp [shares_equal.l0] at h
 | k + 1 => by
  have ih0 := shares_equal.mono_l k
  ·intro y0 y1 y2 y3 y4 y5 y6 y7
   unfold shares_equal.l0
   repeat' first
   | (with_reducible exact ih0 _ _ _ _ _ _ _ _)
   | (with_reducible exact by_compare.mono _ _)
   | (with_reducible exact shares_minus.mono _ _ _ _ _)
   | (with_reducible exact shares_over.mono _ _ _ _)
   | (with_reducible exact shares_smaller.mono _ _ _ _ _)
   | (with_reducible exact LeO.refl _)
   | (with_reducible exact LeO.none _)
   | (with_reducible refine LeO.ite ?_ ?_)
   | (with_reducible refine LeO.bind ?_ (fun _ => ?_))
   | exact ih0 _ _ _ _ _ _ _ _
   | exact by_compare.mono _ _
   | exact shares_minus.mono _ _ _ _ _
   | exact shares_over.mono _ _ _ _
   | exact shares_smaller.mono _ _ _ _ _
   | exact LeO.none _
   | refine LeO.ite ?_ ?_
   | refine LeO.bind ?_ (fun _ => ?_)
theorem shares_equal.mono : ∀ a0 a1 a2 k, LeO (shares_equal.f k a0 a1 a2) (shares_equal.f (k + 1) a0 a1 a2) := by
 intro a0 a1 a2 k
 have ih0 := shares_equal.mono_l k
 unfold shares_equal.f
 repeat' first
   | (with_reducible exact ih0 _ _ _ _ _ _ _ _)
   | (with_reducible exact by_compare.mono _ _)
   | (with_reducible exact shares_minus.mono _ _ _ _ _)
   | (with_reducible exact shares_over.mono _ _ _ _)
   | (with_reducible exact shares_smaller.mono _ _ _ _ _)
   | (with_reducible exact LeO.refl _)
   | (with_reducible exact LeO.none _)
   | (with_reducible refine LeO.ite ?_ ?_)
   | (with_reducible refine LeO.bind ?_ (fun _ => ?_))
   | exact ih0 _ _ _ _ _ _ _ _
   | exact by_compare.mono _ _
   | exact shares_minus.mono _ _ _ _ _
   | exact shares_over.mono _ _ _ _
   | exact shares_smaller.mono _ _ _ _ _
   | exact LeO.none _
   | refine LeO.ite ?_ ?_
   | refine LeO.bind ?_ (fun _ => ?_)
def shares_equal.T6 : Bool × List (List Nat × List Nat) := (true, [([], []), ([], []), ([], []), ([], []), ([2, 3], [2, 3]), ([4], [4]), ([], []), ([], []), ([6, 7], [6, 7]), ([5, 8, 8], [5, 8]), ([0, 1, 0, 1, 2, 3, 4, 5, 6, 7, 8, 9], [0, 1]), ([10, 9, 9, 0, 1, 2, 3, 4, 5, 6, 7, 8, 9], [9, 10])])
def shares_equal.B6 : List Nat := [0, 0, 0, 0, 12, 28, 0, 0, 192, 508, 1023, 2047]
theorem shares_equal.tab6 : rtab .any (opsOf Try.f122 6) = shares_equal.T6 := by kernel_rfl
theorem shares_equal.bits6 : waitsOk shares_equal.T6.2 shares_equal.B6 = true := by kernel_rfl
set_option maxHeartbeats 8000000 in
set_option maxRecDepth 100000 in
theorem shares_equal.calls (k : Nat) (A0 : Option Addr) (c0 : Nat) (l0 : List (S23)) (a1_0 : Int) (a1_1 : Int) (r : List (S23)) (w : World) (hr0 : Kd.C k23 w A0 l0.length l0) (hc0 : l0.length ≤ c0) (h : shares_equal.f k l0 a1_0 a1_1 = some r) :
  Calls Try.prog 122 #[.slice A0 l0.length c0, .agg #[.int .i64 a1_0, .int .i64 a1_1]] w fun e w' => ∃ v0_ : Value, e = .returned (v0_) ∧ Kd.R k23 23 w' w.heap.size (fun _ => True) v0_ r ∧ Below w.heap.size w w' := by
 have hu23 := Try.underlying23
 have HR0 := A_ hr0
 have HC0 := A_ hc0
 clear hr0 hc0
 have HB := A_ (Below.refl w.heap.size w)
 have H : (if 0 ≤ (l0.length : Int) then (if ((l0.length : Int) : Int).toNat ≤ 17592186044416 then ((by_compare.f k l0).bind fun t1561 => (shares_equal.l0 k l0 (List.replicate ((l0.length : Int) : Int).toNat z23) (l0.length : Int) t1561 (t1561.length : Int) 0 a1_0 a1_1)) else (none)) else (none)) = some r := h
 clear h
 by_cases c3 : 0 ≤ (l0.length : Int)
 ·rw [if_pos c3] at H
  have c3b0 := eq_true c3
  have c3b1 : decide (0 ≤ (l0.length : Int)) = true := decide_eq_true c3
  clear c3
  by_cases c4 : ((l0.length : Int) : Int).toNat ≤ 17592186044416
  ·rw [if_pos c4] at H
   have c4b0 := eq_true c4
   have c4b1 : decide (((l0.length : Int) : Int).toNat ≤ 17592186044416) = true := decide_eq_true c4
   clear c4
   obtain ⟨y1558, hy1558⟩ : ∃ y_ : List (S23), y_ = (List.replicate ((l0.length : Int) : Int).toNat z23) := ⟨_, rfl⟩
   replace H : ((by_compare.f k l0).bind fun t1561 => (shares_equal.l0 k l0 y1558 (l0.length : Int) t1561 (t1561.length : Int) 0 a1_0 a1_1)) = some r := by rw [hy1558]; exact H
   have Ny1558 := A_ hy1558
   clear hy1558
   replace H := Option.bind_eq_some_iff.mp H
   obtain ⟨t1561, A50, H⟩ := H
   replace H : (shares_equal.l0 k l0 y1558 (l0.length : Int) t1561 (t1561.length : Int) 0 a1_0 a1_1) = some r := H
   have A5 := A_ A50
   clear A50
   have H' := A_ H
   clear H
   go_enter Try.func122, Try.ntmps122
   go_wp2_with (first | ((with_reducible refine gate_dst (N := 3) rfl ?_); refine box_event ?hg (N := 3) ?hd (cs := #[.int .i64 a1_0, .int .i64 a1_1]) (t := 23) ?hr ?_; (case hd => rfl); (case hg => rfl); (case hr => first | (go_simp; done) | (go_simp; rfl)); intro gb1557 hg w6 hbox hb; have BK1557 := A_ hbox; have GW1557 := gw hg HB; have GE1557 := GW1557; replace HB := bB HB hb; clear hb hbox hg) | ((with_reducible refine gate_dst (N := 11) rfl ?_); refine Kd.R_make k23 _ 23 rfl (N := 11) rfl 35 _ _ rfl (l0.length : Int) rfl rfl Try.underlying35 (.agg #[(.int .i64 0), (.int .i64 0)]) 16 info23 rfl (by decide) (by omega) z23 (ok := fun _ => True) (okp := fun _ => True) (k23_mkM _ _ _ z23 ) (fun _ hk => hk) trivial (of_decide_eq_true (by assumption)) (Nat.le_trans (Nat.mul_le_mul_right _ (of_decide_eq_true (by assumption) : (l0.length : Int).toNat ≤ 17592186044416)) (by omega)) (Below.refl _ _) (Nat.le_refl _) ?_; intro v1559 w7 ho8 hb hg_ hnew_; clear hg_ hnew_; (first | rw [← Ny1558.out] at ho8 | (simp only [Int.reduceToNat] at ho8; rw [← Ny1558.out] at ho8)); have HO1560 := A_ (Kd.R_lower (Kd.R_newB ho8 (g := gb1557) (o := .cells #[.int .i64 a1_0, .int .i64 a1_1] 23 (0, 0)) BK1557.out) (below_size HB.out)); replace BK1557 := kB BK1557 hb; replace HB := bB HB hb; clear hb ho8) | ((with_reducible refine gate_callee (f := 84) rfl ?_); refine goesL_ (some 15) rfl rfl Try.func84 (by kernel_rfl) rfl #[.slice A0 l0.length c0, .func (.func 85) #[] #[]] rfl (by simp only [mt, mc, mz]; rfl) ?_; (with_reducible refine (by_compare.calls k _ _ l0 t1561 _ ?side1 ?side2 A5.out).mono ?_); (case side1 => exact cB HR0 HB); (case side2 => exact HC0.out); rintro e w9 ⟨v1562, rfl, ho0, hb⟩; refine ⟨_, rfl, ?_⟩; have HO1563 := A_ (Kd.R_lower ho0 (below_size HB.out)); replace HO1560 := rB HO1560 hb; replace BK1557 := kB BK1557 hb; replace HB := bB HB hb; (try clear hb); (try clear hb2); (try clear hk); (try clear hi); (try clear ho0); obtain ⟨Ao10, co10, eo10⟩ := Kd.R_slice HO1563.out; subst eo10))
   go_loopg [6, 17] k (fun kq v6 v17 w' => ∃ (x5_1 : List (S23)) (x6_1 : Int) (x17_1 : Int) (x1558000_1 : Int) (x1558001_1 : Int), v6 = .int .i64 x6_1 ∧ v17 = .int .i64 x17_1 ∧ Aside0 (shares_equal.l0 kq l0 x5_1 x6_1 t1561 (t1561.length : Int) x17_1 x1558000_1 x1558001_1 = some r) ∧ Aside0 (kq ≤ k) ∧ Aside0 (Kd.R k23 23 w' w.heap.size (fun k_ => k_ ≠ gb1557) v1559 x5_1) ∧ Aside0 (Kd.R (Kd.int .i64) 3 w' w.heap.size (fun _ => True) (.slice Ao10 t1561.length co10) t1561) ∧ Aside0 (w'.heap[gb1557]? = some (.cells #[.int .i64 x1558000_1, .int .i64 x1558001_1] 23 (0, 0))) ∧ Aside0 (Below w.heap.size w w'))
   case atStart => exact ⟨(y1558), ((l0.length : Int)), (0), (a1_0), (a1_1), rfl, rfl, H', ⟨Nat.le_refl _⟩, ⟨by exact Kd.R_mono HO1560.out (fun _ hk => hk.2)⟩, ⟨by exact HO1563.out⟩, ⟨by exact BK1557.out⟩, ⟨by repeat (first | (with_reducible first | exact HB.out | apply below_alloc | apply pw_below_drewN | apply below_drew1 | refine below_set ?_ GE1557.out) | exact HB.out)⟩⟩
   case round =>
    clear H'
    try clear c1
    try clear p2
    try clear c3
    try clear c3b0
    try clear c3b1
    try clear c4
    try clear c4b0
    try clear c4b1
    try clear c8
    obtain ⟨x5_1, x6_1, x17_1, x1558000_1, x1558001_1, rfl, rfl, HA, HK1, HO_5, HO_15, BK1557, HB⟩ := hrel
    cases gk with
    | zero => exact absurd HA.out (by simp [shares_equal.l0])
    | succ k1 =>
     have H := HA.out
     clear HA
     simp only [shares_equal.l0] at H
     by_cases c11 : x17_1 < (t1561.length : Int)
     ·rw [if_pos c11] at H
      have c11b0 : decide (x17_1 < (t1561.length : Int)) = true := decide_eq_true c11
      clear c11
      by_cases c12 : 0 ≤ x17_1
      ·rw [if_pos c12] at H
       have c12b0 : decide (0 ≤ x17_1) = true := decide_eq_true c12
       clear c12
       by_cases c13 : x17_1 < (t1561.length : Int)
       ·rw [if_pos c13] at H
        have c13b0 : decide (x17_1 < (t1561.length : Int)) = true := decide_eq_true c13
        clear c13
        by_cases c14 : 0 ≤ (rd t1561 x17_1)
        ·rw [if_pos c14] at H
         have c14b0 : decide (0 ≤ (rd t1561 x17_1)) = true := decide_eq_true c14
         clear c14
         by_cases c15 : (rd t1561 x17_1) < (l0.length : Int)
         ·rw [if_pos c15] at H
          have c15b0 : decide ((rd t1561 x17_1) < (l0.length : Int)) = true := decide_eq_true c15
          clear c15
          replace H := Option.bind_eq_some_iff.mp H
          obtain ⟨⟨t1566, t1567⟩, A160, H⟩ := H
          dsimp only at H
          have A16 := A_ A160
          clear A160
          replace H := Option.bind_eq_some_iff.mp H
          obtain ⟨⟨t1568, t1569⟩, A170, H⟩ := H
          dsimp only at H
          have A17 := A_ A170
          clear A170
          by_cases c18 : (rd t1561 x17_1) < (x5_1.length : Int)
          ·rw [if_pos c18] at H
           have c18b0 : decide ((rd t1561 x17_1) < (x5_1.length : Int)) = true := decide_eq_true c18
           clear c18
           obtain ⟨y1570, hy1570⟩ : ∃ y_ : List (S23), y_ = (x5_1.set ((rd t1561 x17_1) : Int).toNat (⟨t1568, t1569⟩ : S23)) := ⟨_, rfl⟩
           replace H : ((shares_minus.f k1 x1558000_1 x1558001_1 ((rd_T23 y1570 (rd t1561 x17_1)).f0) ((rd_T23 y1570 (rd t1561 x17_1)).f1)).bind fun bt1572 => (shares_equal.l0 k1 l0 y1570 (wrap64 (x6_1 - 1)) t1561 (t1561.length : Int) (wrap64 (x17_1 + 1)) bt1572.1 bt1572.2)) = some r := by rw [hy1570]; exact H
           have Ny1570 := A_ hy1570
           clear hy1570
           replace H := Option.bind_eq_some_iff.mp H
           obtain ⟨⟨t1572, t1573⟩, A200, H⟩ := H
           dsimp only at H
           have A20 := A_ A200
           clear A200
           have H' := A_ H
           clear H
           have p1564 : 0 ≤ (x17_1 : Int) := of_decide_eq_true (by assumption)
           have q1564 : x17_1 < (t1561.length : Int) := of_decide_eq_true (by assumption)
           obtain ⟨ad1564, e1564, hx1564_0⟩ := Kd.at_int (Kd.R_reads' HO_15.out).2.2 x17_1 p1564 q1564
           cases e1564
           replace p1564 := eq_true p1564
           replace q1564 := eq_true q1564
           try go_wp2
           replace HO_5 := A_ (Kd.R_drew HO_5.out)
           replace HO_15 := A_ (Kd.R_drew HO_15.out)
           replace BK1557 := A_ (blk_drew BK1557.out)
           replace HB := A_ (below_drew1 HB.out)
           have p1565 : 0 ≤ ((rd t1561 x17_1) : Int) := of_decide_eq_true (by assumption)
           have q1565 : (rd t1561 x17_1) < (l0.length : Int) := of_decide_eq_true (by assumption)
           obtain ⟨ad1565, e1565, hx1565_0, hx1565_1⟩ := at_T23 HR0.out (rd t1561 x17_1) p1565 q1565
           have hw1565_1 := hx1565_1
           have hw1565_0 := hx1565_0
           cases e1565
           replace hx1565_0 := (HB.out.cell (World.block_lt_of_cell? w _ hx1565_0)).trans hx1565_0
           replace hx1565_1 := (HB.out.cell (World.block_lt_of_cell? w _ hx1565_1)).trans hx1565_1
           replace p1565 := eq_true p1565
           replace q1565 := eq_true q1565
           refine start_ (n := 12) (S := fun w' => w'.cell? ⟨gb1557, 0, none⟩ = some (.int .i64 x1558000_1) ∧ w'.cell? ⟨gb1557, 1, none⟩ = some (.int .i64 x1558001_1) ∧ w'.cell? (ad1565.add (((rd t1561 x17_1)).toNat * 2)) = some (.int .i64 ((rd_T23 l0 (rd t1561 x17_1)).f0)) ∧ w'.cell? ⟨(ad1565.add (((rd t1561 x17_1)).toNat * 2)).block, (ad1565.add (((rd t1561 x17_1)).toNat * 2)).off + 1, none⟩ = some (.int .i64 ((rd_T23 l0 (rd t1561 x17_1)).f1))) (ds := [11]) (ba 12 0) (by kernel_rfl) rfl rfl ⟨cz BK1557 0, cz BK1557 1, ((HB.out.cell (World.block_lt_of_cell? w _ hw1565_0)).trans hw1565_0), ((HB.out.cell (World.block_lt_of_cell? w _ hw1565_1)).trans hw1565_1)⟩ (fun hHeld => ?_); refine with_tabW shares_equal.tab6 shares_equal.bits6 (fun HT_ HW_ => ?_)
           generalize wr.drew = w21 at HO_5 HO_15 BK1557 HB hx1565_0 hx1565_1 hHeld ⊢
           refine pq 0 21 1 HT_ ?_
           refine pq 1 22 3 HT_ ?_
           refine pq 2 23 7 HT_ ?_
           refine pq 3 24 15 HT_ ?_
           refine pq 4 25 31 HT_ ?_
           refine pq 7 28 159 HT_ ?_
           refine tq 5 26 191 HT_ HW_ hHeld ?_
           refine tq 6 27 255 HT_ HW_ hHeld ?_
           refine oq 8 29 511 HT_ (fun K hK => ?_)
           refine gq Try.func96 #[.agg #[.int .i64 x1558000_1, .int .i64 x1558001_1], .int .i64 x6_1] ?_
           with_reducible refine (shares_over.calls k1 x1558000_1 x1558001_1 x6_1 t1566 t1567 _ A16.out).mono ?_
           rintro e w22 ⟨rfl, hb⟩
           refine ⟨_, rfl, ?_⟩
           replace HO_5 := rB HO_5 hb
           replace HO_15 := rB HO_15 hb
           replace BK1557 := kB BK1557 hb
           replace HB := bB HB hb
           (try clear hb)
           (try clear hb2)
           (try clear hk)
           (try clear hi)
           refine hK.out _ _ ⟨cz BK1557 0, cz BK1557 1, ((HB.out.cell (World.block_lt_of_cell? w _ hw1565_0)).trans hw1565_0), ((HB.out.cell (World.block_lt_of_cell? w _ hw1565_1)).trans hw1565_1)⟩ (fun hHeld => ?_)
           clear hK K
           refine nq 29 ?_
           refine oq 9 30 1023 HT_ (fun K hK => ?_)
           refine gq Try.func129 #[.agg #[.int .i64 ((rd_T23 l0 (rd t1561 x17_1)).f0), .int .i64 ((rd_T23 l0 (rd t1561 x17_1)).f1)], .agg #[.int .i64 t1566, .int .i64 t1567]] ?_
           with_reducible refine (shares_smaller.calls k1 ((rd_T23 l0 (rd t1561 x17_1)).f0) ((rd_T23 l0 (rd t1561 x17_1)).f1) t1566 t1567 t1568 t1569 _ A17.out).mono ?_
           rintro e w23 ⟨rfl, hb⟩
           refine ⟨_, rfl, ?_⟩
           replace HO_5 := rB HO_5 hb
           replace HO_15 := rB HO_15 hb
           replace BK1557 := kB BK1557 hb
           replace HB := bB HB hb
           (try clear hb)
           (try clear hb2)
           (try clear hk)
           (try clear hi)
           have p19 : 0 ≤ ((rd t1561 x17_1) : Int) := of_decide_eq_true (by assumption)
           have q19 : ((rd t1561 x17_1) : Int) < ((x5_1.length : Int) : Int) := of_decide_eq_true (by assumption)
           obtain ⟨go19, co19, eo19, gb19, gl19, cl19, HG19⟩ := Kd.R_form HO_5.out (by omega)
           (first | cases eo19 | (injection eo19 with ea_ en_ ec_; (first | subst ea_ | (injection ea_ with ea_; subst ea_)); subst ec_; clear en_))
           have GB19 := A_ gb19
           have GG19 := A_ HG19
           clear gb19 gl19 HG19
           obtain ⟨ce19, hcl19, hM19, hcc19, hfr19⟩ := Kd.R_elem HO_5.out z23 ((rd t1561 x17_1) : Int) p19 q19
           obtain rfl := k23_openM hM19
           have hx19_0 : World.cell? _ ⟨go19, ((rd t1561 x17_1) : Int).toNat * 2, none⟩ = some (.int .i64 ((rd_T23 x5_1 (rd t1561 x17_1)).f0)) := hcc19 0 _ rfl
           have hx19_1 : World.cell? _ ⟨go19, ((rd t1561 x17_1) : Int).toNat * 2 + 1, none⟩ = some (.int .i64 ((rd_T23 x5_1 (rd t1561 x17_1)).f1)) := hcc19 1 _ rfl
           have hf19_0 : World.frozen? _ ⟨go19, ((rd t1561 x17_1) : Int).toNat * 2, none⟩ = false := hfr19 0
           have hf19_1 : World.frozen? _ ⟨go19, ((rd t1561 x17_1) : Int).toNat * 2 + 1, none⟩ = false := hfr19 1
           clear hcl19 hcc19 hfr19 hM19
           replace p19 := eq_true p19
           replace q19 := eq_true q19
           obtain ⟨ce24, hcl24, hM24, hcc24, hfr24⟩ := Kd.R_elem HO_5.out z23 ((rd t1561 x17_1) : Int) (of_decide_eq_true (by assumption)) (by have h_ : ((rd t1561 x17_1) : Int) < ((x5_1.length : Int) : Int) := of_decide_eq_true (by assumption); first | exact h_ | (have e_ := (Kd.R_reads' HO_5.out).1; omega) | simpa using h_)
           obtain rfl := k23_openM hM24
           have HP24 := (Kd.R_seg HO_5.out ((rd t1561 x17_1) : Int) (of_decide_eq_true (by assumption)) (by have h_ : ((rd t1561 x17_1) : Int) < ((x5_1.length : Int) : Int) := of_decide_eq_true (by assumption); first | exact h_ | (have e_ := (Kd.R_reads' HO_5.out).1; omega) | simpa using h_) (seg := [.int .i64 t1568, .int .i64 t1569]) (j := 0) hcl24 hcc24 (show 2 ≤ 2 from by decide) (x' := (⟨t1568, t1569⟩ : S23)) (k23_mkM _ _ _ (⟨t1568, t1569⟩ : S23) ) (fun _ hk => hk)).1
           rw [← Ny1570.out] at HP24
           have HQ24 := A_ HP24
           clear hcl24 hcc24 hfr24 hM24 HP24
           refine hK.out _ _ ⟨cz BK1557 0, cz BK1557 1, ((HB.out.cell (World.block_lt_of_cell? w _ hw1565_0)).trans hw1565_0), ((HB.out.cell (World.block_lt_of_cell? w _ hw1565_1)).trans hw1565_1)⟩ (fun hHeld => ?_)
           clear hK K
           refine nq 30 ?_
           refine pq 10 31 2047 HT_ ?_
           refine last_ (i := 11) (N := none) (ba 12 4095) rfl rfl (one_of HT_.out (by kernel_rfl)) (by decide) (fun K hK => ?_)
           refine skip_ (w1 := ?_) (by rfl) rfl ?_ ?_
           rotate_left
           ·go_simp
            rfl
           refine hK.out _ _ ?_
           clear hK K
           refine done_ (done_of HT_.out (by kernel_rfl)) ?_
           have n0_ : Aside0 (Kd.R k23 23 ((w23.setCell ⟨go19, ((rd t1561 x17_1) : Int).toNat * 2, none⟩ (.int .i64 t1568)).setCell ⟨go19, ((rd t1561 x17_1) : Int).toNat * 2 + 1, none⟩ (.int .i64 t1569)) w.heap.size (fun k_ => k_ ≠ gb1557) (.slice (some ⟨go19, 0, none⟩) x5_1.length co19) y1570) := ⟨by exact HQ24.out⟩
           have n1_ : Aside0 (Kd.R (Kd.int .i64) 3 ((w23.setCell ⟨go19, ((rd t1561 x17_1) : Int).toNat * 2, none⟩ (.int .i64 t1568)).setCell ⟨go19, ((rd t1561 x17_1) : Int).toNat * 2 + 1, none⟩ (.int .i64 t1569)) w.heap.size (fun _ => True) (.slice (some ad1564) t1561.length co10) t1561) := ⟨by exact Kd.R_mono (Kd.R_far (p := ⟨go19, ((rd t1561 x17_1) : Int).toNat * 2 + 1, none⟩) (Kd.R_far (p := ⟨go19, ((rd t1561 x17_1) : Int).toNat * 2, none⟩) (Kd.R_types HO_15.out GG19.out (by decide)) (fun _ hk => hk.2) (.int .i64 t1568)) (fun _ hk => hk.2) (.int .i64 t1569)) (fun _ hk => trivial)⟩
           have n2_ : Aside0 (((w23.setCell ⟨go19, ((rd t1561 x17_1) : Int).toNat * 2, none⟩ (.int .i64 t1568)).setCell ⟨go19, ((rd t1561 x17_1) : Int).toNat * 2 + 1, none⟩ (.int .i64 t1569)).heap[gb1557]? = some (.cells #[.int .i64 x1558000_1, .int .i64 x1558001_1] 23 (0, 0))) := ⟨by refine blk_far ?_ (by have h_ := Kd.R_away HO_5.out (fun _ hk => hk); intro e_; exact h_ (by rw [e_]; rfl)) _; refine blk_far ?_ (by have h_ := Kd.R_away HO_5.out (fun _ hk => hk); intro e_; exact h_ (by rw [e_]; rfl)) _; exact BK1557.out⟩
           have n3_ : Aside0 (Below w.heap.size w ((w23.setCell ⟨go19, ((rd t1561 x17_1) : Int).toNat * 2, none⟩ (.int .i64 t1568)).setCell ⟨go19, ((rd t1561 x17_1) : Int).toNat * 2 + 1, none⟩ (.int .i64 t1569))) := ⟨by repeat (first | (with_reducible first | exact HB.out | apply below_alloc | apply pw_below_drewN | apply below_drew1 | refine below_set ?_ GB19.out | refine below_set ?_ GB19.out | refine below_set ?_ GE1557.out) | exact HB.out)⟩
           (try clear HO_5)
           (try clear HO_15)
           (try clear BK1557)
           (try clear HB)
           generalize ((w23.setCell ⟨go19, ((rd t1561 x17_1) : Int).toNat * 2, none⟩ (.int .i64 t1568)).setCell ⟨go19, ((rd t1561 x17_1) : Int).toNat * 2 + 1, none⟩ (.int .i64 t1569)) = w25 at n0_ n1_ n2_ n3_ ⊢
           have HO_5 := n0_
           have HO_15 := n1_
           have BK1557 := n2_
           have HB := n3_
           clear n0_ n1_ n2_ n3_
           try go_wp2
           replace HO_5 := A_ (Kd.R_drew HO_5.out)
           replace HO_15 := A_ (Kd.R_drew HO_15.out)
           replace BK1557 := A_ (blk_drew BK1557.out)
           replace HB := A_ (below_drew1 HB.out)
           have p1571 : 0 ≤ ((rd t1561 x17_1) : Int) := of_decide_eq_true (by assumption)
           have q1571 : (rd t1561 x17_1) < (y1570.length : Int) := (by have h_ : ((rd t1561 x17_1) : Int) < ((x5_1.length : Int) : Int) := of_decide_eq_true (by assumption); first | (have e_ := (Kd.R_reads' HO_5.out).1; omega) | simpa only [Ny1570.out, List.length_set] using h_)
           have ql1571 : (((rd t1561 x17_1) : Int) < ((x5_1.length : Int) : Int)) = True := eq_true (of_decide_eq_true (by assumption))
           obtain ⟨ad1571, e1571, hx1571_0, hx1571_1⟩ := at_T23 (Kd.R_reads' HO_5.out).2.2 (rd t1561 x17_1) p1571 q1571
           obtain rfl : (⟨go19, 0, none⟩ : Addr) = ad1571 := (by injection e1571)
           (first | simp only [add_plain] at hx1571_0 | simp only [add_at] at hx1571_0 | simp only [Addr.add, Nat.zero_add] at hx1571_0 | skip)
           (first | simp only [add_plain] at hx1571_1 | simp only [add_at] at hx1571_1 | simp only [Addr.add, Nat.zero_add] at hx1571_1 | skip)
           replace p1571 := eq_true p1571
           replace q1571 := eq_true q1571
           refine start_ (n := 7) (S := fun w' => w'.cell? ⟨gb1557, 0, none⟩ = some (.int .i64 x1558000_1) ∧ w'.cell? ⟨gb1557, 1, none⟩ = some (.int .i64 x1558001_1) ∧ w'.cell? ⟨go19, ((rd t1561 x17_1)).toNat * 2, none⟩ = some (.int .i64 ((rd_T23 y1570 (rd t1561 x17_1)).f0)) ∧ w'.cell? ⟨go19, ((rd t1561 x17_1)).toNat * 2 + 1, none⟩ = some (.int .i64 ((rd_T23 y1570 (rd t1561 x17_1)).f1))) (ds := [6]) (ba 7 0) (by kernel_rfl) rfl rfl ⟨cz BK1557 0, cz BK1557 1, hx1571_0, hx1571_1⟩ (fun hHeld => ?_)
           generalize w25.drew = w26 at HO_5 HO_15 BK1557 HB hx1571_0 hx1571_1 hHeld ⊢
           refine pr 1 33 2 ?_
           refine pr 2 34 6 ?_
           refine pr 3 35 14 ?_
           refine tr 0 32 15 hHeld ?_
           refine tr 4 36 31 hHeld ?_
           refine os 5 37 63 (fun K hK => ?_)
           refine gq Try.func95 #[.agg #[.int .i64 x1558000_1, .int .i64 x1558001_1], .agg #[.int .i64 ((rd_T23 y1570 (rd t1561 x17_1)).f0), .int .i64 ((rd_T23 y1570 (rd t1561 x17_1)).f1)]] ?_
           with_reducible refine (shares_minus.calls k1 x1558000_1 x1558001_1 ((rd_T23 y1570 (rd t1561 x17_1)).f0) ((rd_T23 y1570 (rd t1561 x17_1)).f1) t1572 t1573 _ A20.out).mono ?_
           rintro e w27 ⟨rfl, hb⟩
           have HS2_ := (hb.cell (World.block_lt_of_cell? _ _ (hHeld.2.2.1))).trans (hHeld.2.2.1)
           have HS3_ := (hb.cell (World.block_lt_of_cell? _ _ (hHeld.2.2.2))).trans (hHeld.2.2.2)
           refine ⟨_, rfl, ?_⟩
           replace HO_5 := rB HO_5 hb
           replace HO_15 := rB HO_15 hb
           replace BK1557 := kB BK1557 hb
           replace HB := bB HB hb
           (try clear hb)
           (try clear hb2)
           (try clear hk)
           (try clear hi)
           refine hK.out _ _ ⟨cz BK1557 0, cz BK1557 1, HS2_, HS3_⟩ (fun hHeld => ?_)
           clear hK K
           refine nq 37 ?_
           refine last_ (i := 6) (N := none) (ba 7 127) rfl rfl (by kernel_rfl) (by decide) (fun K hK => ?_)
           have hs28 : w27.cell? ⟨gb1557, 0, none⟩ = some (.int .i64 x1558000_1) := cz BK1557 0
           have hfs28 := blk_frozen BK1557.out 0
           have hs29 : w27.cell? ⟨gb1557, 1, none⟩ = some (.int .i64 x1558001_1) := cz BK1557 1
           have hfs29 := blk_frozen BK1557.out 1
           refine skip_ (w1 := ?_) (by rfl) rfl ?_ ?_
           rotate_left
           ·go_simp
            rfl
           refine hK.out _ _ ?_
           clear hK K
           refine done_ (by kernel_rfl) ?_
           try go_wp2
           go_roundg k1
           case measure => have := HK1.out; omega
           case rel => exact ⟨(y1570), (wrap64 (x6_1 - 1)), (wrap64 (x17_1 + 1)), (t1572), (t1573), rfl, rfl, H', ⟨by have := HK1.out; omega⟩, ⟨by exact Kd.R_mono (Kd.R_far (p := ⟨gb1557, 1, none⟩) (Kd.R_far (p := ⟨gb1557, 0, none⟩) (Kd.R_mono HO_5.out (fun k_ hk => (⟨hk, hk⟩ : _ ∧ k_ ≠ gb1557))) (fun _ hk => hk.2) (.int .i64 t1572)) (fun _ hk => hk.2) (.int .i64 t1573)) (fun _ hk => hk.1)⟩, ⟨by exact Kd.R_mono (Kd.R_far (p := ⟨gb1557, 1, none⟩) (Kd.R_far (p := ⟨gb1557, 0, none⟩) (Kd.R_types HO_15.out BK1557.out (by decide)) (fun _ hk => hk.2) (.int .i64 t1572)) (fun _ hk => hk.2) (.int .i64 t1573)) (fun _ hk => trivial)⟩, ⟨by refine blk_put (cs := #[.int .i64 t1572, .int .i64 x1558001_1]) ?_ 1 _ rfl; refine blk_put (cs := #[.int .i64 x1558000_1, .int .i64 x1558001_1]) ?_ 0 _ rfl; exact BK1557.out⟩, ⟨by repeat (first | (with_reducible first | exact HB.out | apply below_alloc | apply pw_below_drewN | apply below_drew1 | refine below_set ?_ GE1557.out) | exact HB.out)⟩⟩
          ·rw [if_neg c18] at H
           exact absurd H (by simp)
         ·rw [if_neg c15] at H
          exact absurd H (by simp)
        ·rw [if_neg c14] at H
         exact absurd H (by simp)
       ·rw [if_neg c13] at H
        exact absurd H (by simp)
      ·rw [if_neg c12] at H
       exact absurd H (by simp)
     ·rw [if_neg c11] at H
      have c11b0 : decide (x17_1 < (t1561.length : Int)) = false := decide_eq_false c11
      clear c11
      obtain rfl := Option.some.inj H
      go_wp2
      go_ret
      exact ⟨_, rfl, by exact Kd.R_mono HO_5.out (fun _ hk => trivial), by repeat (first | (with_reducible first | exact HB.out | apply below_alloc | apply pw_below_drewN | apply below_drew1 | refine below_set ?_ GE1557.out) | exact HB.out)⟩
  ·rw [if_neg c4] at H
   exact absurd H (by simp)
 ·rw [if_neg c3] at H
  exact absurd H (by simp)
end Go.Proofs.Ytjohcjfmlhihbaa.G

/- ### F98 -/
namespace Go.Proofs.Ytjohcjfmlhihbaa.G
open Go.RowKit Go.Proofs.YtjohcjfmlhihbaaW.PrintWords Go.Proofs.YtjohcjfmlhihbaaW.PrintLast Go.Proofs.YtjohcjfmlhihbaaW.PrintMore
attribute [local go_sem] cond_true cond_false fld23_0 fld23_1 fld45_0 fld45_1 fld109_0 fld109_1 fld94_0 fld94_1 max2_int min2_int max_two min_two max_three min_three max_four min_four   -- for this text's walks alone
set_option linter.unusedVariables false
set_option linter.unusedSimpArgs false
def shares_claims_awards.f (k : Nat) (l0_0 : List Int) (a0_1 : Int) : Option ((List (S23))) := (each_whole.f k l0_0 a0_1).bind fun t1582 => ((shares_whole.f a0_1).bind fun bt1585 => ((shares_equal.f k t1582 bt1585.1 bt1585.2).bind fun t1587 => (some t1587)))
theorem shares_claims_awards.mono : ∀ a0 a1 k, LeO (shares_claims_awards.f k a0 a1) (shares_claims_awards.f (k + 1) a0 a1) := by
 intro a0 a1 k
 unfold shares_claims_awards.f
 repeat' first
   | (with_reducible exact each_whole.mono _ _ _)
   | (with_reducible exact shares_equal.mono _ _ _ _)
   | (with_reducible exact LeO.refl _)
   | (with_reducible exact LeO.none _)
   | (with_reducible refine LeO.ite ?_ ?_)
   | (with_reducible refine LeO.bind ?_ (fun _ => ?_))
   | exact each_whole.mono _ _ _
   | exact shares_equal.mono _ _ _ _
   | exact LeO.none _
   | refine LeO.ite ?_ ?_
   | refine LeO.bind ?_ (fun _ => ?_)
set_option maxHeartbeats 8000000 in
set_option maxRecDepth 100000 in
theorem shares_claims_awards.calls (k : Nat) (A0_0 : Option Addr) (c0_0 : Nat) (l0_0 : List Int) (a0_1 : Int) (r : List (S23)) (w : World) (hr0_0 : Kd.C (Kd.int .i64) w A0_0 l0_0.length l0_0) (hc0_0 : l0_0.length ≤ c0_0) (h : shares_claims_awards.f k l0_0 a0_1 = some r) :
  Calls Try.prog 98 #[.agg #[.slice A0_0 l0_0.length c0_0, .int .i64 a0_1]] w fun e w' => ∃ v0_ : Value, e = .returned (v0_) ∧ Kd.R k23 23 w' w.heap.size (fun _ => True) v0_ r ∧ Below w.heap.size w w' := by
 have hu94 := Try.underlying94
 have HR0_0 := A_ hr0_0
 have HC0_0 := A_ hc0_0
 clear hr0_0 hc0_0
 have HB := A_ (Below.refl w.heap.size w)
 have H : ((each_whole.f k l0_0 a0_1).bind fun t1582 => ((shares_whole.f a0_1).bind fun bt1585 => ((shares_equal.f k t1582 bt1585.1 bt1585.2).bind fun t1587 => (some t1587)))) = some r := h
 clear h
 replace H := Option.bind_eq_some_iff.mp H
 obtain ⟨t1582, A20, H⟩ := H
 replace H : ((shares_whole.f a0_1).bind fun bt1585 => ((shares_equal.f k t1582 bt1585.1 bt1585.2).bind fun t1587 => (some t1587))) = some r := H
 have A2 := A_ A20
 clear A20
 replace H := Option.bind_eq_some_iff.mp H
 obtain ⟨⟨t1585, t1586⟩, A30, H⟩ := H
 dsimp only at H
 have A3 := A_ A30
 clear A30
 replace H := Option.bind_eq_some_iff.mp H
 obtain ⟨t1587, A40, H⟩ := H
 replace H : (some t1587) = some r := H
 have A4 := A_ A40
 clear A40
 obtain rfl := Option.some.inj H
 go_enter Try.func98, Try.ntmps98
 try go_wp2_with (first | ((with_reducible refine gate_dst (N := 1) rfl ?_); refine box_event ?hg (N := 1) ?hd (cs := #[.slice A0_0 l0_0.length c0_0, .int .i64 a0_1]) (t := 94) ?hr ?_; (case hd => rfl); (case hg => rfl); (case hr => first | (go_simp; done) | (go_simp; rfl)); intro gb1581 hg w5 hbox hb; have BK1581 := A_ hbox; have GW1581 := gw hg HB; have GE1581 := GW1581; replace HB := bB HB hb; clear hb hbox hg))
 replace BK1581 := A_ (blk_drew BK1581.out)
 replace HB := A_ (below_drew1 HB.out)
 refine start_ (n := 7) (S := fun w' => w'.cell? ⟨gb1581, 0, none⟩ = some (.slice A0_0 l0_0.length c0_0) ∧ w'.cell? ⟨gb1581, 1, none⟩ = some (.int .i64 a0_1)) (ds := []) (ba 7 0) (by kernel_rfl) rfl rfl ⟨cz BK1581 0, cz BK1581 1⟩ (fun hHeld => ?_)
 generalize w5.drew = w6 at BK1581 HB hHeld ⊢
 refine pr 2 5 4 ?_
 refine tr 0 3 5 hHeld ?_
 refine tr 3 6 13 hHeld ?_
 refine os 1 4 15 (fun K hK => ?_)
 refine gq Try.func120 #[.agg #[.slice A0_0 l0_0.length c0_0, .int .i64 a0_1], .func (.func 64) #[] #[]] ?_
 with_reducible refine (each_whole.calls k _ _ l0_0 a0_1 t1582 _ ?side1 ?side2 A2.out).mono ?_
 (case side1 => exact cB HR0_0 HB)
 (case side2 => exact HC0_0.out)
 rintro e w7 ⟨v1583, rfl, ho0, hb⟩
 refine ⟨_, rfl, ?_⟩
 have HO1584 := A_ (Kd.R_lower ho0 (below_size HB.out))
 replace BK1581 := kB BK1581 hb
 replace HB := bB HB hb
 (try clear hb)
 (try clear hb2)
 (try clear hk)
 (try clear hi)
 (try clear ho0)
 refine hK.out _ _ ⟨cz BK1581 0, cz BK1581 1⟩ (fun hHeld => ?_)
 clear hK K
 refine nq 4 ?_
 refine os 4 7 31 (fun K hK => ?_)
 refine gq Try.func64 #[.int .i64 a0_1] ?_
 with_reducible refine (shares_whole.calls a0_1 t1585 t1586 _ A3.out).mono ?_
 rintro e w8 ⟨rfl, hb⟩
 refine ⟨_, rfl, ?_⟩
 replace HO1584 := rB HO1584 hb
 replace BK1581 := kB BK1581 hb
 replace HB := bB HB hb
 (try clear hb)
 (try clear hb2)
 (try clear hk)
 (try clear hi)
 obtain ⟨Ao9, co9, eo9⟩ := Kd.R_slice HO1584.out
 (first | subst eo9 | (injection eo9 with f1_ f2_ f3_; have f4_ := f1_.symm; have f5_ := f3_.symm; clear f1_ f2_ f3_; subst f4_; subst f5_))
 refine hK.out _ _ ⟨cz BK1581 0, cz BK1581 1⟩ (fun hHeld => ?_)
 clear hK K
 refine nq 7 ?_
 refine os 5 8 63 (fun K hK => ?_)
 refine gq Try.func122 #[.slice Ao9 t1582.length co9, .agg #[.int .i64 t1585, .int .i64 t1586]] ?_
 with_reducible refine (shares_equal.calls k _ _ t1582 t1585 t1586 t1587 _ ?side1 ?side2 A4.out).mono ?_
 (case side1 => repeat (first | exact (Kd.R_reads' HO1584.out).2.2 | (with_reducible refine Kd.C_alloc ?_ _) | (with_reducible refine Kd.C_drewN ?_ _) | (with_reducible refine Kd.C_drew ?_)))
 (case side2 => exact (Kd.R_reads' HO1584.out).2.1)
 rintro e w10 ⟨v1588, rfl, ho0, hb⟩
 refine ⟨_, rfl, ?_⟩
 have HO1589 := A_ (Kd.R_lower (Kd.R_new' ho0 (Kd.R_lt HO1584.out)) (below_size HB.out))
 replace HO1584 := A_ (Kd.R_elder' HO1584.out (Kd.R_base ho0) hb)
 replace BK1581 := kB BK1581 hb
 replace HB := bB HB hb
 (try clear hb)
 (try clear hb2)
 (try clear hk)
 (try clear hi)
 (try clear ho0)
 refine hK.out _ _ ⟨cz BK1581 0, cz BK1581 1⟩ (fun hHeld => ?_)
 clear hK K
 refine nq 8 ?_
 refine pr 6 2 127 ?_
 refine done_ (by kernel_rfl) ?_
 try go_wp2
 go_ret
 exact ⟨_, rfl, by (with_reducible repeat (first | apply Kd.R_alloc | apply Kd.R_drewN | apply Kd.R_drew)); exact Kd.R_mono HO1589.out (fun _ hk => trivial), by repeat (first | (with_reducible first | exact HB.out | apply below_alloc | apply pw_below_drewN | apply below_drew1 | refine below_set ?_ GE1581.out) | exact HB.out)⟩
end Go.Proofs.Ytjohcjfmlhihbaa.G

/- ### F99 -/
namespace Go.Proofs.Ytjohcjfmlhihbaa.G
open Go.RowKit Go.Proofs.YtjohcjfmlhihbaaW.PrintWords Go.Proofs.YtjohcjfmlhihbaaW.PrintLast Go.Proofs.YtjohcjfmlhihbaaW.PrintMore
attribute [local go_sem] cond_true cond_false fld23_0 fld23_1 fld45_0 fld45_1 fld109_0 fld109_1 fld94_0 fld94_1 max2_int min2_int max_two min_two max_three min_three max_four min_four   -- for this text's walks alone
set_option linter.unusedVariables false
set_option linter.unusedSimpArgs false
def shares_claims_losses.l0 : Nat → List (S23) → List (S23) → List Int → Int → Int → Option ((List (S23)))
 | 0, _, _, _, _, _ => none
 | k + 1, x3, x4, x18, x19, x20 => if x20 < x19 then (if 0 ≤ x20 then (if x20 < (x18.length : Int) then ((shares_whole.f (rd x18 x20)).bind fun bt1601 => (if x20 < (x3.length : Int) then ((shares_minus.f k bt1601.1 bt1601.2 ((rd_T23 x3 x20).f0) ((rd_T23 x3 x20).f1)).bind fun bt1604 => (if x4.length < 8796093022208 then (shares_claims_losses.l0 k x3 (x4 ++ [(⟨bt1604.1, bt1604.2⟩ : S23)]) x18 x19 (wrap64 (x20 + 1))) else (none))) else (none))) else (none)) else (none)) else (some x4)
def shares_claims_losses.f (k : Nat) (l0_0 : List Int) (a0_1 : Int) : Option ((List (S23))) := (each_whole.f k l0_0 a0_1).bind fun t1591 => ((shares_total.f k l0_0).bind fun t1594 => ((shares_whole.f (wrap64 (t1594 - a0_1))).bind fun bt1595 => ((shares_equal.f k t1591 bt1595.1 bt1595.2).bind fun t1597 => (shares_claims_losses.l0 k t1597 ([] : List (S23)) l0_0 (l0_0.length : Int) 0))))
theorem shares_claims_losses.mono_l : ∀ k, (∀ y0 y1 y2 y3 y4, LeO (shares_claims_losses.l0 k y0 y1 y2 y3 y4) (shares_claims_losses.l0 (k + 1) y0 y1 y2 y3 y4))
 | 0 => fun _ _ _ _ _ r h => by simp [shares_claims_losses.l0] at h
 | k + 1 => by
  have ih0 := shares_claims_losses.mono_l k
  ·intro y0 y1 y2 y3 y4
   unfold shares_claims_losses.l0
   repeat' first
   | (with_reducible exact ih0 _ _ _ _ _)
   | (with_reducible exact each_whole.mono _ _ _)
   | (with_reducible exact shares_equal.mono _ _ _ _)
   | (with_reducible exact shares_minus.mono _ _ _ _ _)
   | (with_reducible exact shares_total.mono _ _)
   | (with_reducible exact LeO.refl _)
   | (with_reducible exact LeO.none _)
   | (with_reducible refine LeO.ite ?_ ?_)
   | (with_reducible refine LeO.bind ?_ (fun _ => ?_))
   | exact ih0 _ _ _ _ _
   | exact each_whole.mono _ _ _
   | exact shares_equal.mono _ _ _ _
   | exact shares_minus.mono _ _ _ _ _
   | exact shares_total.mono _ _
   | exact LeO.none _
   | refine LeO.ite ?_ ?_
   | refine LeO.bind ?_ (fun _ => ?_)
theorem shares_claims_losses.mono : ∀ a0 a1 k, LeO (shares_claims_losses.f k a0 a1) (shares_claims_losses.f (k + 1) a0 a1) := by
 intro a0 a1 k
 have ih0 := shares_claims_losses.mono_l k
 unfold shares_claims_losses.f
 repeat' first
   | (with_reducible exact ih0 _ _ _ _ _)
   | (with_reducible exact each_whole.mono _ _ _)
   | (with_reducible exact shares_equal.mono _ _ _ _)
   | (with_reducible exact shares_minus.mono _ _ _ _ _)
   | (with_reducible exact shares_total.mono _ _)
   | (with_reducible exact LeO.refl _)
   | (with_reducible exact LeO.none _)
   | (with_reducible refine LeO.ite ?_ ?_)
   | (with_reducible refine LeO.bind ?_ (fun _ => ?_))
   | exact ih0 _ _ _ _ _
   | exact each_whole.mono _ _ _
   | exact shares_equal.mono _ _ _ _
   | exact shares_minus.mono _ _ _ _ _
   | exact shares_total.mono _ _
   | exact LeO.none _
   | refine LeO.ite ?_ ?_
   | refine LeO.bind ?_ (fun _ => ?_)
def shares_claims_losses.T1 : Bool × List (List Nat × List Nat) := (true, [([], []), ([0], [0]), ([], []), ([2], [2]), ([3, 1], [3]), ([], []), ([5], [5]), ([4, 6], [4, 6]), ([7, 4], [7]), ([1, 8, 8], [1, 8]), ([9, 9, 0, 1, 2, 3, 4, 5, 6, 7, 8, 9], [9])])
def shares_claims_losses.B1 : List Nat := [0, 1, 0, 4, 15, 0, 32, 127, 255, 511, 1023]
theorem shares_claims_losses.tab1 : rtab .any (opsOf Try.f99 1) = shares_claims_losses.T1 := by kernel_rfl
theorem shares_claims_losses.bits1 : waitsOk shares_claims_losses.T1.2 shares_claims_losses.B1 = true := by kernel_rfl
def shares_claims_losses.T6 : Bool × List (List Nat × List Nat) := (true, [([], []), ([], []), ([1], [1]), ([], []), ([], []), ([3, 4], [3, 4]), ([5], [5]), ([2, 6, 2], [2, 6]), ([7], [7]), ([0, 8, 7], [0, 8]), ([9, 9, 0, 1, 2, 3, 4, 5, 6, 7, 8, 9], [0, 9])])
def shares_claims_losses.B6 : List Nat := [0, 0, 2, 0, 0, 24, 56, 126, 254, 511, 1023]
theorem shares_claims_losses.tab6 : rtab .any (opsOf Try.f99 6) = shares_claims_losses.T6 := by kernel_rfl
theorem shares_claims_losses.bits6 : waitsOk shares_claims_losses.T6.2 shares_claims_losses.B6 = true := by kernel_rfl
set_option maxHeartbeats 8000000 in
set_option maxRecDepth 100000 in
theorem shares_claims_losses.calls (k : Nat) (A0_0 : Option Addr) (c0_0 : Nat) (l0_0 : List Int) (a0_1 : Int) (r : List (S23)) (w : World) (hr0_0 : Kd.C (Kd.int .i64) w A0_0 l0_0.length l0_0) (hc0_0 : l0_0.length ≤ c0_0) (h : shares_claims_losses.f k l0_0 a0_1 = some r) :
  Calls Try.prog 99 #[.agg #[.slice A0_0 l0_0.length c0_0, .int .i64 a0_1]] w fun e w' => ∃ v0_ : Value, e = .returned (v0_) ∧ Kd.R k23 23 w' w.heap.size (fun _ => True) v0_ r ∧ Below w.heap.size w w' := by
 have hu94 := Try.underlying94
 have hu23 := Try.underlying23
 have HR0_0 := A_ hr0_0
 have HC0_0 := A_ hc0_0
 clear hr0_0 hc0_0
 have HB := A_ (Below.refl w.heap.size w)
 have H : ((each_whole.f k l0_0 a0_1).bind fun t1591 => ((shares_total.f k l0_0).bind fun t1594 => ((shares_whole.f (wrap64 (t1594 - a0_1))).bind fun bt1595 => ((shares_equal.f k t1591 bt1595.1 bt1595.2).bind fun t1597 => (shares_claims_losses.l0 k t1597 ([] : List (S23)) l0_0 (l0_0.length : Int) 0))))) = some r := h
 clear h
 replace H := Option.bind_eq_some_iff.mp H
 obtain ⟨t1591, A20, H⟩ := H
 replace H : ((shares_total.f k l0_0).bind fun t1594 => ((shares_whole.f (wrap64 (t1594 - a0_1))).bind fun bt1595 => ((shares_equal.f k t1591 bt1595.1 bt1595.2).bind fun t1597 => (shares_claims_losses.l0 k t1597 ([] : List (S23)) l0_0 (l0_0.length : Int) 0)))) = some r := H
 have A2 := A_ A20
 clear A20
 replace H := Option.bind_eq_some_iff.mp H
 obtain ⟨t1594, A30, H⟩ := H
 replace H : ((shares_whole.f (wrap64 (t1594 - a0_1))).bind fun bt1595 => ((shares_equal.f k t1591 bt1595.1 bt1595.2).bind fun t1597 => (shares_claims_losses.l0 k t1597 ([] : List (S23)) l0_0 (l0_0.length : Int) 0))) = some r := H
 have A3 := A_ A30
 clear A30
 replace H := Option.bind_eq_some_iff.mp H
 obtain ⟨⟨t1595, t1596⟩, A40, H⟩ := H
 dsimp only at H
 have A4 := A_ A40
 clear A40
 replace H := Option.bind_eq_some_iff.mp H
 obtain ⟨t1597, A50, H⟩ := H
 replace H : (shares_claims_losses.l0 k t1597 ([] : List (S23)) l0_0 (l0_0.length : Int) 0) = some r := H
 have A5 := A_ A50
 clear A50
 have H' := A_ H
 clear H
 go_enter Try.func99, Try.ntmps99
 try go_wp2_with (first | ((with_reducible refine gate_dst (N := 1) rfl ?_); refine box_event ?hg (N := 1) ?hd (cs := #[.slice A0_0 l0_0.length c0_0, .int .i64 a0_1]) (t := 94) ?hr ?_; (case hd => rfl); (case hg => rfl); (case hr => first | (go_simp; done) | (go_simp; rfl)); intro gb1590 hg w6 hbox hb; have BK1590 := A_ hbox; have GW1590 := gw hg HB; have GE1590 := GW1590; replace HB := bB HB hb; clear hb hbox hg))
 replace BK1590 := A_ (blk_drew BK1590.out)
 replace HB := A_ (below_drew1 HB.out)
 refine start_ (n := 11) (S := fun w' => w'.cell? ⟨gb1590, 0, none⟩ = some (.slice A0_0 l0_0.length c0_0) ∧ w'.cell? ⟨gb1590, 1, none⟩ = some (.int .i64 a0_1)) (ds := []) (ba 11 0) (by kernel_rfl) rfl rfl ⟨cz BK1590 0, cz BK1590 1⟩ (fun hHeld => ?_); refine with_tabW shares_claims_losses.tab1 shares_claims_losses.bits1 (fun HT_ HW_ => ?_)
 generalize w6.drew = w7 at BK1590 HB hHeld ⊢
 refine pq 2 9 4 HT_ ?_
 refine pq 5 12 36 HT_ ?_
 refine tq 0 7 37 HT_ HW_ hHeld ?_
 refine tq 3 10 45 HT_ HW_ hHeld ?_
 refine tq 6 13 109 HT_ HW_ hHeld ?_
 refine oq 1 8 111 HT_ (fun K hK => ?_)
 refine gq Try.func120 #[.agg #[.slice A0_0 l0_0.length c0_0, .int .i64 a0_1], .func (.func 64) #[] #[]] ?_
 with_reducible refine (each_whole.calls k _ _ l0_0 a0_1 t1591 _ ?side1 ?side2 A2.out).mono ?_
 (case side1 => exact cB HR0_0 HB)
 (case side2 => exact HC0_0.out)
 rintro e w8 ⟨v1592, rfl, ho0, hb⟩
 refine ⟨_, rfl, ?_⟩
 have HO1593 := A_ (Kd.R_lower ho0 (below_size HB.out))
 replace BK1590 := kB BK1590 hb
 replace HB := bB HB hb
 (try clear hb)
 (try clear hb2)
 (try clear hk)
 (try clear hi)
 (try clear ho0)
 refine hK.out _ _ ⟨cz BK1590 0, cz BK1590 1⟩ (fun hHeld => ?_)
 clear hK K
 refine nq 8 ?_
 refine oq 4 11 127 HT_ (fun K hK => ?_)
 refine gq Try.func93 #[.slice A0_0 l0_0.length c0_0] ?_
 with_reducible refine (shares_total.calls k _ _ l0_0 t1594 _ ?side1 ?side2 A3.out).mono ?_
 (case side1 => exact cB HR0_0 HB)
 (case side2 => exact HC0_0.out)
 rintro e w' ⟨rfl, ⟨nd, rfl⟩⟩
 refine ⟨_, rfl, ?_⟩
 refine hK.out _ _ ⟨cz BK1590 0, cz BK1590 1⟩ (fun hHeld => ?_)
 clear hK K
 refine nq 11 ?_
 refine pq 7 14 255 HT_ ?_
 refine oq 8 15 511 HT_ (fun K hK => ?_)
 refine gq Try.func64 #[.int .i64 (wrap64 (t1594 - a0_1))] ?_
 with_reducible refine (shares_whole.calls (wrap64 (t1594 - a0_1)) t1595 t1596 _ A4.out).mono ?_
 rintro e w9 ⟨rfl, hb⟩
 refine ⟨_, rfl, ?_⟩
 replace HO1593 := rB HO1593 hb
 replace BK1590 := kB BK1590 hb
 replace HB := bB HB hb
 (try clear hb)
 (try clear hb2)
 (try clear hk)
 (try clear hi)
 obtain ⟨Ao10, co10, eo10⟩ := Kd.R_slice HO1593.out
 (first | subst eo10 | (injection eo10 with f1_ f2_ f3_; have f4_ := f1_.symm; have f5_ := f3_.symm; clear f1_ f2_ f3_; subst f4_; subst f5_))
 refine hK.out _ _ ⟨cz BK1590 0, cz BK1590 1⟩ (fun hHeld => ?_)
 clear hK K
 refine nq 15 ?_
 refine oq 9 16 1023 HT_ (fun K hK => ?_)
 refine gq Try.func122 #[.slice Ao10 t1591.length co10, .agg #[.int .i64 t1595, .int .i64 t1596]] ?_
 with_reducible refine (shares_equal.calls k _ _ t1591 t1595 t1596 t1597 _ ?side1 ?side2 A5.out).mono ?_
 (case side1 => repeat (first | exact (Kd.R_reads' HO1593.out).2.2 | (with_reducible refine Kd.C_alloc ?_ _) | (with_reducible refine Kd.C_drewN ?_ _) | (with_reducible refine Kd.C_drew ?_)))
 (case side2 => exact (Kd.R_reads' HO1593.out).2.1)
 rintro e w11 ⟨v1598, rfl, ho0, hb⟩
 refine ⟨_, rfl, ?_⟩
 have HO1599 := A_ (Kd.R_lower (Kd.R_new' ho0 (Kd.R_lt HO1593.out)) (below_size HB.out))
 replace HO1593 := A_ (Kd.R_elder' HO1593.out (Kd.R_base ho0) hb)
 replace BK1590 := kB BK1590 hb
 replace HB := bB HB hb
 (try clear hb)
 (try clear hb2)
 (try clear hk)
 (try clear hi)
 (try clear ho0)
 refine hK.out _ _ ⟨cz BK1590 0, cz BK1590 1⟩ (fun hHeld => ?_)
 clear hK K
 refine nq 16 ?_
 refine pq 10 3 2047 HT_ ?_
 refine done_ (done_of HT_.out (by kernel_rfl)) ?_
 have hcz12_0 : w11.cell? ⟨gb1590, 0, none⟩ = some (.slice A0_0 l0_0.length c0_0) := cz BK1590 0
 have hcz12_1 : w11.cell? ⟨gb1590, 1, none⟩ = some (.int .i64 a0_1) := cz BK1590 1
 have hfz12_0 := blk_frozen BK1590.out 0
 have hfz12_1 := blk_frozen BK1590.out 1
 try go_wp2
 go_loopg [4, 20] k (fun kq v4 v20 w' => ∃ (x4_1 : List (S23)) (x20_1 : Int), v20 = .int .i64 x20_1 ∧ Aside0 (shares_claims_losses.l0 kq t1597 x4_1 l0_0 (l0_0.length : Int) x20_1 = some r) ∧ Aside0 (kq ≤ k) ∧ Aside0 (Kd.R k23 23 w' w.heap.size (fun k_ => some k_ ≠ (v4 : Value).ownBlock) v1598 t1597) ∧ Aside0 (Kd.R k23 23 w' w.heap.size (fun k_ => some k_ ≠ (v1598 : Value).ownBlock) v4 x4_1) ∧ Aside0 (w'.heap[gb1590]? = some (.cells #[(.slice A0_0 l0_0.length c0_0), .int .i64 a0_1] 94 (0, 0))) ∧ Aside0 (Below w.heap.size w w'))
 case atStart => exact ⟨(([] : List (S23))), (0), rfl, H', ⟨Nat.le_refl _⟩, ⟨by (with_reducible repeat (first | apply Kd.R_alloc | apply Kd.R_drewN | apply Kd.R_drew)); exact Kd.R_mono HO1599.out (fun _ hk => (by simp [Value.ownBlock]))⟩, ⟨by first | exact Kd.R_nil _ _ _ _ _ | exact Kd.N_nil _ _ _ _ _ | exact Kd.V_nil _ _ _ _ _ | exact Kd.Q_nil _ _ _ _ _ | exact Kd.S_nil _ _ _ _ _⟩, ⟨by (with_reducible repeat (first | refine blk_drewN ?_ _ | refine blk_drew ?_ | refine blk_alloc ?_ _)); exact BK1590.out⟩, ⟨by repeat (first | (with_reducible first | exact HB.out | apply below_alloc | apply pw_below_drewN | apply below_drew1 | refine below_set ?_ GE1590.out) | exact HB.out)⟩⟩
 case round =>
  clear H'
  try clear c1
  try clear p2
  try clear c6
  try clear p6
  try clear c9
  try clear c12
  try clear hcz12_0
  try clear hcz12_1
  try clear hfz12_0
  try clear hfz12_1
  obtain ⟨x4_1, x20_1, rfl, HA, HK1, HO_3, HO_4, BK1590, HB⟩ := hrel
  cases gk with
  | zero => exact absurd HA.out (by simp [shares_claims_losses.l0])
  | succ k1 =>
   have H := HA.out
   clear HA
   simp only [shares_claims_losses.l0] at H
   by_cases c13 : x20_1 < (l0_0.length : Int)
   ·rw [if_pos c13] at H
    have c13b0 : decide (x20_1 < (l0_0.length : Int)) = true := decide_eq_true c13
    clear c13
    by_cases c14 : 0 ≤ x20_1
    ·rw [if_pos c14] at H
     have c14b0 : decide (0 ≤ x20_1) = true := decide_eq_true c14
     clear c14
     by_cases c15 : x20_1 < (l0_0.length : Int)
     ·rw [if_pos c15] at H
      have c15b0 : decide (x20_1 < (l0_0.length : Int)) = true := decide_eq_true c15
      clear c15
      replace H := Option.bind_eq_some_iff.mp H
      obtain ⟨⟨t1601, t1602⟩, A160, H⟩ := H
      dsimp only at H
      have A16 := A_ A160
      clear A160
      by_cases c17 : x20_1 < (t1597.length : Int)
      ·rw [if_pos c17] at H
       have c17b0 : decide (x20_1 < (t1597.length : Int)) = true := decide_eq_true c17
       clear c17
       replace H := Option.bind_eq_some_iff.mp H
       obtain ⟨⟨t1604, t1605⟩, A180, H⟩ := H
       dsimp only at H
       have A18 := A_ A180
       clear A180
       by_cases c19 : x4_1.length < 8796093022208
       ·rw [if_pos c19] at H
        have LMc19 := A_ c19
        clear c19
        obtain ⟨y1606, hy1606⟩ : ∃ y_ : List (S23), y_ = (x4_1 ++ [(⟨t1604, t1605⟩ : S23)]) := ⟨_, rfl⟩
        replace H : (shares_claims_losses.l0 k1 t1597 y1606 l0_0 (l0_0.length : Int) (wrap64 (x20_1 + 1))) = some r := by first | (rw [hy1606]; with_reducible exact H) | (have H2_ := (Option.bind_some _ _).symm.trans H; rw [hy1606]; with_reducible exact H2_) | (have H2_ := (Option.bind_some _ _).symm.trans H; with_reducible exact H2_) | with_reducible exact H | (rw [hy1606]; exact H) | exact H
        have Ny1606 := A_ hy1606
        clear hy1606
        have H' := A_ H
        clear H
        have p1600 : 0 ≤ (x20_1 : Int) := of_decide_eq_true (by assumption)
        have q1600 : x20_1 < (l0_0.length : Int) := of_decide_eq_true (by assumption)
        obtain ⟨ad1600, e1600, hx1600_0⟩ := Kd.at_int HR0_0.out x20_1 p1600 q1600
        cases e1600
        replace hx1600_0 := (HB.out.cell (World.block_lt_of_cell? w _ hx1600_0)).trans hx1600_0
        replace p1600 := eq_true p1600
        replace q1600 := eq_true q1600
        try go_wp2
        replace HO_3 := A_ (Kd.R_drew HO_3.out)
        replace HO_4 := A_ (Kd.R_drew HO_4.out)
        replace BK1590 := A_ (blk_drew BK1590.out)
        replace HB := A_ (below_drew1 HB.out)
        obtain ⟨Ao21, co21, eo21⟩ := Kd.R_slice HO_3.out
        (first | subst eo21 | (injection eo21 with f1_ f2_ f3_; have f4_ := f1_.symm; have f5_ := f3_.symm; clear f1_ f2_ f3_; subst f4_; subst f5_))
        have p1603 : 0 ≤ (x20_1 : Int) := of_decide_eq_true (by assumption)
        have q1603 : x20_1 < (t1597.length : Int) := of_decide_eq_true (by assumption)
        obtain ⟨ad1603, e1603, hx1603_0, hx1603_1⟩ := at_T23 (Kd.R_reads' HO_3.out).2.2 x20_1 p1603 q1603
        cases e1603
        replace p1603 := eq_true p1603
        replace q1603 := eq_true q1603
        refine start_ (n := 11) (S := fun w' => w'.cell? (ad1603.add ((x20_1).toNat * 2)) = some (.int .i64 ((rd_T23 t1597 x20_1).f0)) ∧ w'.cell? ⟨(ad1603.add ((x20_1).toNat * 2)).block, (ad1603.add ((x20_1).toNat * 2)).off + 1, none⟩ = some (.int .i64 ((rd_T23 t1597 x20_1).f1))) (ds := [8, 9]) (ba 11 0) (by kernel_rfl) rfl rfl ⟨hx1603_0, hx1603_1⟩ (fun hHeld => ?_); refine with_tabW shares_claims_losses.tab6 shares_claims_losses.bits6 (fun HT_ HW_ => ?_)
        generalize wr.drew = w20 at HO_3 HO_4 BK1590 HB hx1603_0 hx1603_1 hHeld ⊢
        refine pq 0 25 1 HT_ ?_
        refine pq 1 26 3 HT_ ?_
        refine pq 3 28 11 HT_ ?_
        refine pq 4 29 27 HT_ ?_
        refine pq 5 30 59 HT_ ?_
        refine tq 6 31 123 HT_ HW_ hHeld ?_
        refine oq 2 27 127 HT_ (fun K hK => ?_)
        refine gq Try.func64 #[.int .i64 (rd l0_0 x20_1)] ?_
        with_reducible refine (shares_whole.calls (rd l0_0 x20_1) t1601 t1602 _ A16.out).mono ?_
        rintro e w22 ⟨rfl, hb⟩
        have HS0_ := (hb.cell (World.block_lt_of_cell? _ _ (hHeld.1))).trans (hHeld.1)
        have HS1_ := (hb.cell (World.block_lt_of_cell? _ _ (hHeld.2))).trans (hHeld.2)
        refine ⟨_, rfl, ?_⟩
        replace HO_3 := rB HO_3 hb
        replace HO_4 := rB HO_4 hb
        replace BK1590 := kB BK1590 hb
        replace HB := bB HB hb
        (try clear hb)
        (try clear hb2)
        (try clear hk)
        (try clear hi)
        refine hK.out _ _ ⟨HS0_, HS1_⟩ (fun hHeld => ?_)
        clear hK K
        refine nq 27 ?_
        refine oq 7 32 255 HT_ (fun K hK => ?_)
        refine gq Try.func95 #[.agg #[.int .i64 t1601, .int .i64 t1602], .agg #[.int .i64 ((rd_T23 t1597 x20_1).f0), .int .i64 ((rd_T23 t1597 x20_1).f1)]] ?_
        with_reducible refine (shares_minus.calls k1 t1601 t1602 ((rd_T23 t1597 x20_1).f0) ((rd_T23 t1597 x20_1).f1) t1604 t1605 _ A18.out).mono ?_
        rintro e w23 ⟨rfl, hb⟩
        have HS0_ := (hb.cell (World.block_lt_of_cell? _ _ (hHeld.1))).trans (hHeld.1)
        have HS1_ := (hb.cell (World.block_lt_of_cell? _ _ (hHeld.2))).trans (hHeld.2)
        refine ⟨_, rfl, ?_⟩
        replace HO_3 := rB HO_3 hb
        replace HO_4 := rB HO_4 hb
        replace BK1590 := kB BK1590 hb
        replace HB := bB HB hb
        (try clear hb)
        (try clear hb2)
        (try clear hk)
        (try clear hi)
        refine hK.out _ _ ⟨HS0_, HS1_⟩ (fun hHeld => ?_)
        clear hK K
        refine nq 32 ?_
        refine last_ (i := 8) (N := some 33) (ba 11 511) rfl rfl (one_of HT_.out (by kernel_rfl)) (by decide) (fun K hK => ?_)
        refine value_ (w1 := ?_) (v := ?_) (by rfl) rfl ?_ ?_
        rotate_left 2
        ·go_simp
         constructor
         ·rfl
         ·rfl
        refine hK.out _ _ ?_
        clear hK K
        refine nq 33 ?_
        refine last_ (i := 9) (N := some 34) (ba 11 1023) rfl rfl (one_of HT_.out (by kernel_rfl)) (by decide) (fun K hK => ?_)
        refine Kd.R_append_step k23 (w0 := w) w.heap.size (by rfl) (.tmp 25) (.tmp 33) 35 23 (.agg #[(.int .i64 0), (.int .i64 0)]) 16 rfl Try.underlying35 info23 rfl (by decide) (by omega) u4 x4_1 (⟨t1604, t1605⟩ : S23) [.int .i64 t1604, .int .i64 t1605] (fun k_ => some k_ ≠ (.slice (some ad1603) t1597.length co21 : Value).ownBlock) (fun _ => False) rfl rfl ?aP (fun _ hk => hk.elim) ?aF ?aO ?aB ?aS ?aL ?_
        (case aP => exact k23_mkM _ _ _ (⟨t1604, t1605⟩ : S23))
        (case aB => exact HB.out)
        (case aF => exact (fun k_ hk => Kd.fresh' (Kd.R_lt HO_3.out) k_ hk))
        (case aO => exact HO_4.out)
        (case aS => exact (below_size HB.out))
        (case aL => have := LMc19.out; omega)
        intro v1607 w24 ho hb hg hat
        rw [← Ny1606.out] at ho
        have HO1608 := A_ ho
        replace HO_3 := A_ (Kd.R_after (ok := (fun _ => True)) (by (with_reducible repeat (first | apply Kd.R_alloc | apply Kd.R_drewN | apply Kd.R_drew)); exact Kd.R_mono HO_3.out (fun _ hk => ⟨trivial, hk⟩)) hg hat)
        replace BK1590 := A_ (blk_grown (g := gb1590) (o := .cells #[.slice (some ad1600) l0_0.length c0_0, .int .i64 a0_1] 94 (0, 0)) BK1590.out hg (Kd.R_ne HO_4.out BK1590.out (by decide)))
        replace HB := A_ hb
        clear HO_4 ho hb hg hat
        refine hK.out _ _ ?_
        clear hK K
        refine nq 34 ?_
        refine pq 10 4 2047 HT_ ?_
        refine done_ (done_of HT_.out (by kernel_rfl)) ?_
        try go_wp2
        go_roundg k1
        case measure => have := HK1.out; omega
        case rel => exact ⟨(y1606), (wrap64 (x20_1 + 1)), rfl, H', ⟨by have := HK1.out; omega⟩, ⟨by (with_reducible repeat (first | apply Kd.R_alloc | apply Kd.R_drewN | apply Kd.R_drew)); exact Kd.R_mono HO_3.out (fun _ hk => hk.2)⟩, ⟨by (with_reducible repeat (first | apply Kd.R_alloc | apply Kd.R_drewN | apply Kd.R_drew)); exact HO1608.out⟩, ⟨by (with_reducible repeat (first | refine blk_drewN ?_ _ | refine blk_drew ?_ | refine blk_alloc ?_ _)); exact BK1590.out⟩, ⟨by repeat (first | (with_reducible first | exact HB.out | apply below_alloc | apply pw_below_drewN | apply below_drew1 | refine below_set ?_ GE1590.out) | exact HB.out)⟩⟩
       ·rw [if_neg c19] at H
        exact absurd H (by simp)
      ·rw [if_neg c17] at H
       exact absurd H (by simp)
     ·rw [if_neg c15] at H
      exact absurd H (by simp)
    ·rw [if_neg c14] at H
     exact absurd H (by simp)
   ·rw [if_neg c13] at H
    have c13b0 : decide (x20_1 < (l0_0.length : Int)) = false := decide_eq_false c13
    clear c13
    obtain rfl := Option.some.inj H
    go_wp2
    go_ret
    exact ⟨_, rfl, by (with_reducible repeat (first | apply Kd.R_alloc | apply Kd.R_drewN | apply Kd.R_drew)); exact Kd.R_mono HO_4.out (fun _ hk => trivial), by repeat (first | (with_reducible first | exact HB.out | apply below_alloc | apply pw_below_drewN | apply below_drew1 | refine below_set ?_ GE1590.out) | exact HB.out)⟩
end Go.Proofs.Ytjohcjfmlhihbaa.G

/- ### F130 -/
namespace Go.Proofs.Ytjohcjfmlhihbaa.G
open Go.RowKit Go.Proofs.YtjohcjfmlhihbaaW.PrintWords Go.Proofs.YtjohcjfmlhihbaaW.PrintLast Go.Proofs.YtjohcjfmlhihbaaW.PrintMore
attribute [local go_sem] cond_true cond_false fld23_0 fld23_1 fld45_0 fld45_1 fld109_0 fld109_1 fld94_0 fld94_1 max2_int min2_int max_two min_two max_three min_three max_four min_four   -- for this text's walks alone
set_option linter.unusedVariables false
set_option linter.unusedSimpArgs false
def shares_claims_halves_1.f (k : Nat) (a0 : Int) : Option (Int × Int) := (shares_frac.f k a0 2).bind fun bt137 => (some (bt137.1, bt137.2))
theorem shares_claims_halves_1.mono : ∀ a0 k, LeO (shares_claims_halves_1.f k a0) (shares_claims_halves_1.f (k + 1) a0) := by
 intro a0 k
 unfold shares_claims_halves_1.f
 repeat' first
   | (with_reducible exact shares_frac.mono _ _ _)
   | (with_reducible exact LeO.refl _)
   | (with_reducible exact LeO.none _)
   | (with_reducible refine LeO.ite ?_ ?_)
   | (with_reducible refine LeO.bind ?_ (fun _ => ?_))
   | exact shares_frac.mono _ _ _
   | exact LeO.none _
   | refine LeO.ite ?_ ?_
   | refine LeO.bind ?_ (fun _ => ?_)
set_option maxHeartbeats 8000000 in
set_option maxRecDepth 100000 in
theorem shares_claims_halves_1.calls (k : Nat) (a0 : Int) (r1 : Int) (r2 : Int) (w : World) (h : shares_claims_halves_1.f k a0 = some (r1, r2)) :
  Calls Try.prog 130 #[.int .i64 a0] w fun e w' => e = .returned (.agg #[.int .i64 r1, .int .i64 r2]) ∧ Below w.heap.size w w' := by
 have hu23 := Try.underlying23
 have HB := Aside0.mk (Below.refl w.heap.size w)
 have H : ((shares_frac.f k a0 2).bind fun bt137 => (some (bt137.1, bt137.2))) = some (r1, r2) := h
 clear h
 replace H := Option.bind_eq_some_iff.mp H
 obtain ⟨⟨t137, t138⟩, A20, H⟩ := H
 replace H : (some (t137, t138)) = some (r1, r2) := H
 have A2 := Aside0.mk A20
 clear A20
 simp only [Option.some.injEq, Prod.mk.injEq] at H
 obtain ⟨rfl, rfl⟩ := H
 go_enter Try.func130, Try.ntmps130
 go_wp2_with (first | ((with_reducible refine gate_dst (N := 2) rfl ?_); refine box_event ?hg (N := 2) ?hd (cs := #[.int .i64 0, .int .i64 0]) (t := 23) ?hr ?_; (case hd => rfl); (case hg => rfl); (case hr => first | (go_simp; done) | (go_simp; rfl)); intro gb136 hg w3 hbox hb; have n0_ := Aside0.mk (below_step (by repeat (first | (with_reducible first | exact HB.out | apply below_alloc | apply pw_below_drewN | apply below_drew1) | exact HB.out)) hb); have n1_ := Aside0.mk (hbox); have n2_ := Aside0.mk ((by rw [hg]; exact (below_size (by repeat (first | (with_reducible first | exact HB.out | apply below_alloc | apply pw_below_drewN | apply below_drew1) | exact HB.out))) : w.heap.size ≤ gb136)); have n3_ := Aside0.mk ((by rw [hg]; exact (below_size (by repeat (first | (with_reducible first | exact HB.out | apply below_alloc | apply pw_below_drewN | apply below_drew1) | exact HB.out))) : w.heap.size ≤ gb136)); clear HB; have HB := n0_; have BK136 := n1_; have GW136 := n2_; have GE136 := n3_; clear n0_ n1_ n2_ n3_; clear hb hbox hg) | ((with_reducible refine gate_callee (f := 117) rfl ?_); refine goesL_ (some 4) rfl rfl Try.func117 (by kernel_rfl) rfl #[.int .i64 a0, .int .i64 2] rfl (by (try simp only [List.map_toArray, List.map_cons, List.map_nil]); first | done | rfl | (simp only [List.length_drop, List.length_take]; rfl)) ?_; (with_reducible refine (shares_frac.calls k a0 2 t137 t138 _ A2.out).mono ?_); rintro e w4 ⟨rfl, hb⟩; refine ⟨_, rfl, ?_⟩; have n0_ := Aside0.mk (blk_below (g := gb136) (o := .cells #[.int .i64 0, .int .i64 0] 23 (0, 0)) (by (with_reducible repeat (first | refine blk_drewN ?_ _ | refine blk_drew ?_ | refine blk_alloc ?_ _)); exact BK136.out) hb); have n1_ := Aside0.mk (below_step (by repeat (first | (with_reducible first | exact HB.out | apply below_alloc | apply pw_below_drewN | apply below_drew1 | refine below_set ?_ GE136.out) | exact HB.out)) hb); clear BK136; clear HB; have BK136 := n0_; have HB := n1_; clear n0_ n1_; (try clear hb); (try clear hb2); (try clear hk); (try clear hi); have hcz5_0 : w4.cell? ⟨gb136, 0, none⟩ = some (.int .i64 0) := (blk_cell BK136.out 0).trans rfl; have hcz5_1 : w4.cell? ⟨gb136, 1, none⟩ = some (.int .i64 0) := (blk_cell BK136.out 1).trans rfl; have hfz5_0 := blk_frozen BK136.out 0; have hfz5_1 := blk_frozen BK136.out 1))
 refine bodyPost_ret (results_cell_row rfl _ _ gb136 23 #[.int .i64 t137, .int .i64 t138] (0, 0) _ rfl (by (with_reducible repeat (first | refine blk_drewN ?_ _ | refine blk_drew ?_ | refine blk_alloc ?_ _)); refine blk_put (cs := #[.int .i64 t137, .int .i64 0]) ?_ 1 _ rfl; (with_reducible repeat (first | refine blk_drewN ?_ _ | refine blk_drew ?_ | refine blk_alloc ?_ _)); refine blk_put (cs := #[.int .i64 0, .int .i64 0]) ?_ 0 _ rfl; (with_reducible repeat (first | refine blk_drewN ?_ _ | refine blk_drew ?_ | refine blk_alloc ?_ _)); exact BK136.out) Try.underlying23 rfl (by kernel_rfl)) rfl ?_
 exact ⟨by first | rfl | (simp [errW_none, errW_some] <;> rfl) | (simp [*, errW_none, errW_some] <;> rfl), by repeat (first | (with_reducible first | exact HB.out | apply below_alloc | apply pw_below_drewN | apply below_drew1 | refine below_set ?_ GE136.out) | exact HB.out)⟩
end Go.Proofs.Ytjohcjfmlhihbaa.G

/- ### F120130 -/
namespace Go.Proofs.Ytjohcjfmlhihbaa.G
open Go.RowKit Go.Proofs.YtjohcjfmlhihbaaW.PrintWords Go.Proofs.YtjohcjfmlhihbaaW.PrintLast Go.Proofs.YtjohcjfmlhihbaaW.PrintMore
attribute [local go_sem] cond_true cond_false fld23_0 fld23_1 fld45_0 fld45_1 fld109_0 fld109_1 fld94_0 fld94_1 max2_int min2_int max_two min_two max_three min_three max_four min_four   -- for this text's walks alone
set_option linter.unusedVariables false
set_option linter.unusedSimpArgs false
def each_halves.l0 : Nat → List (S23) → List Int → Int → Int → Option ((List (S23)))
 | 0, _, _, _, _ => none
 | k + 1, x5, x9, x10, x11 => if x11 < x10 then (if 0 ≤ x11 then (if x11 < (x9.length : Int) then ((shares_claims_halves_1.f k (rd x9 x11)).bind fun bt1611 => (if x5.length < 8796093022208 then (each_halves.l0 k (x5 ++ [(⟨bt1611.1, bt1611.2⟩ : S23)]) x9 x10 (wrap64 (x11 + 1))) else (none))) else (none)) else (none)) else (some x5)
def each_halves.f (k : Nat) (l0_0 : List Int) (a0_1 : Int) : Option ((List (S23))) := each_halves.l0 k ([] : List (S23)) l0_0 (l0_0.length : Int) 0
theorem each_halves.mono_l : ∀ k, (∀ y0 y1 y2 y3, LeO (each_halves.l0 k y0 y1 y2 y3) (each_halves.l0 (k + 1) y0 y1 y2 y3))
 | 0 => fun _ _ _ _ r h => by simp [each_halves.l0] at h
 | k + 1 => by
  have ih0 := each_halves.mono_l k
  ·intro y0 y1 y2 y3
   unfold each_halves.l0
   repeat' first
   | (with_reducible exact ih0 _ _ _ _)
   | (with_reducible exact shares_claims_halves_1.mono _ _)
   | (with_reducible exact LeO.refl _)
   | (with_reducible exact LeO.none _)
   | (with_reducible refine LeO.ite ?_ ?_)
   | (with_reducible refine LeO.bind ?_ (fun _ => ?_))
   | exact ih0 _ _ _ _
   | exact shares_claims_halves_1.mono _ _
   | exact LeO.none _
   | refine LeO.ite ?_ ?_
   | refine LeO.bind ?_ (fun _ => ?_)
theorem each_halves.mono : ∀ a0 a1 k, LeO (each_halves.f k a0 a1) (each_halves.f (k + 1) a0 a1) := by
 intro a0 a1 k
 have ih0 := each_halves.mono_l k
 unfold each_halves.f
 repeat' first
   | (with_reducible exact ih0 _ _ _ _)
   | (with_reducible exact shares_claims_halves_1.mono _ _)
   | (with_reducible exact LeO.refl _)
   | (with_reducible exact LeO.none _)
   | (with_reducible refine LeO.ite ?_ ?_)
   | (with_reducible refine LeO.bind ?_ (fun _ => ?_))
   | exact ih0 _ _ _ _
   | exact shares_claims_halves_1.mono _ _
   | exact LeO.none _
   | refine LeO.ite ?_ ?_
   | refine LeO.bind ?_ (fun _ => ?_)
set_option maxHeartbeats 8000000 in
set_option maxRecDepth 100000 in
theorem each_halves.calls (k : Nat) (A0_0 : Option Addr) (c0_0 : Nat) (l0_0 : List Int) (a0_1 : Int) (r : List (S23)) (w : World) (hr0_0 : Kd.C (Kd.int .i64) w A0_0 l0_0.length l0_0) (hc0_0 : l0_0.length ≤ c0_0) (h : each_halves.f k l0_0 a0_1 = some r) :
  Calls Try.prog 120 #[.agg #[.slice A0_0 l0_0.length c0_0, .int .i64 a0_1], .func (.func 130) #[] #[]] w fun e w' => ∃ v0_ : Value, e = .returned (v0_) ∧ Kd.R k23 23 w' w.heap.size (fun _ => True) v0_ r ∧ Below w.heap.size w w' := by
 have hu94 := Try.underlying94
 have HR0_0 := Aside0.mk hr0_0
 have HC0_0 := Aside0.mk hc0_0
 clear hr0_0 hc0_0
 have HB := Aside0.mk (Below.refl w.heap.size w)
 have H : (each_halves.l0 k ([] : List (S23)) l0_0 (l0_0.length : Int) 0) = some r := h
 clear h
 have H' := Aside0.mk H
 clear H
 go_enter Try.func120, Try.ntmps120
 go_wp2_with (first | ((with_reducible refine gate_dst (N := 2) rfl ?_); refine box_event ?hg (N := 2) ?hd (cs := #[.slice A0_0 l0_0.length c0_0, .int .i64 a0_1]) (t := 94) ?hr ?_; (case hd => rfl); (case hg => rfl); (case hr => first | (go_simp; done) | (go_simp; rfl)); intro gb1609 hg w2 hbox hb; have n0_ := Aside0.mk (below_step (by repeat (first | (with_reducible first | exact HB.out | apply below_alloc | apply pw_below_drewN | apply below_drew1) | exact HB.out)) hb); have n1_ := Aside0.mk (hbox); have n2_ := Aside0.mk ((by rw [hg]; exact (below_size (by repeat (first | (with_reducible first | exact HB.out | apply below_alloc | apply pw_below_drewN | apply below_drew1) | exact HB.out))) : w.heap.size ≤ gb1609)); have n3_ := Aside0.mk ((by rw [hg]; exact (below_size (by repeat (first | (with_reducible first | exact HB.out | apply below_alloc | apply pw_below_drewN | apply below_drew1) | exact HB.out))) : w.heap.size ≤ gb1609)); clear HB; have HB := n0_; have BK1609 := n1_; have GW1609 := n2_; have GE1609 := n3_; clear n0_ n1_ n2_ n3_; clear hb hbox hg; have hcz3_0 : w2.cell? ⟨gb1609, 0, none⟩ = some (.slice A0_0 l0_0.length c0_0) := (blk_cell BK1609.out 0).trans rfl; have hcz3_1 : w2.cell? ⟨gb1609, 1, none⟩ = some (.int .i64 a0_1) := (blk_cell BK1609.out 1).trans rfl; have hfz3_0 := blk_frozen BK1609.out 0; have hfz3_1 := blk_frozen BK1609.out 1))
 go_loopg [5, 11] k (fun kq v5 v11 w' => ∃ (x5_1 : List (S23)) (x11_1 : Int), v11 = .int .i64 x11_1 ∧ Aside0 (each_halves.l0 kq x5_1 l0_0 (l0_0.length : Int) x11_1 = some r) ∧ Aside0 (kq ≤ k) ∧ Aside0 (Kd.R k23 23 w' w.heap.size (fun _ => True) v5 x5_1) ∧ Aside0 (w'.heap[gb1609]? = some (.cells #[(.slice A0_0 l0_0.length c0_0), .int .i64 a0_1] 94 (0, 0))) ∧ Aside0 (Below w.heap.size w w'))
 case atStart => exact ⟨(([] : List (S23))), (0), (by first | rfl | (simp; done) | (simp [*]; done)), H', ⟨Nat.le_refl _⟩, ⟨by first | exact Kd.R_nil _ _ _ _ _ | exact Kd.N_nil _ _ _ _ _ | exact Kd.V_nil _ _ _ _ _ | exact Kd.Q_nil _ _ _ _ _ | exact Kd.S_nil _ _ _ _ _⟩, ⟨by (with_reducible repeat (first | refine blk_drewN ?_ _ | refine blk_drew ?_ | refine blk_alloc ?_ _)); exact BK1609.out⟩, ⟨by repeat (first | (with_reducible first | exact HB.out | apply below_alloc | apply pw_below_drewN | apply below_drew1 | refine below_set ?_ GE1609.out) | exact HB.out)⟩⟩
 case round =>
  clear H'
  try clear c1
  try clear p2
  try clear hcz3_0
  try clear hcz3_1
  try clear hfz3_0
  try clear hfz3_1
  obtain ⟨x5_1, x11_1, rfl, HA, HK1, HO_5, BK1609, HB⟩ := hrel
  cases gk with
  | zero => exact absurd HA.out (by simp [each_halves.l0])
  | succ k1 =>
   have H := HA.out
   clear HA
   simp only [each_halves.l0] at H
   by_cases c4 : x11_1 < (l0_0.length : Int)
   ·rw [if_pos c4] at H
    have c4b0 : decide (x11_1 < (l0_0.length : Int)) = true := decide_eq_true c4
    clear c4
    by_cases c5 : 0 ≤ x11_1
    ·rw [if_pos c5] at H
     have c5b0 : decide (0 ≤ x11_1) = true := decide_eq_true c5
     clear c5
     by_cases c6 : x11_1 < (l0_0.length : Int)
     ·rw [if_pos c6] at H
      have c6b0 : decide (x11_1 < (l0_0.length : Int)) = true := decide_eq_true c6
      clear c6
      replace H := Option.bind_eq_some_iff.mp H
      obtain ⟨⟨t1611, t1612⟩, A70, H⟩ := H
      replace H : (if x5_1.length < 8796093022208 then (each_halves.l0 k1 (x5_1 ++ [(⟨t1611, t1612⟩ : S23)]) l0_0 (l0_0.length : Int) (wrap64 (x11_1 + 1))) else (none)) = some r := H
      have A7 := Aside0.mk A70
      clear A70
      by_cases c8 : x5_1.length < 8796093022208
      ·rw [if_pos c8] at H
       have LMc8 := Aside0.mk c8
       clear c8
       obtain ⟨y1613, hy1613⟩ : ∃ y_ : List (S23), y_ = (x5_1 ++ [(⟨t1611, t1612⟩ : S23)]) := ⟨_, rfl⟩
       replace H : (each_halves.l0 k1 y1613 l0_0 (l0_0.length : Int) (wrap64 (x11_1 + 1))) = some r := by first | (rw [hy1613]; with_reducible exact H) | (have H2_ := (Option.bind_some _ _).symm.trans H; rw [hy1613]; with_reducible exact H2_) | (have H2_ := (Option.bind_some _ _).symm.trans H; with_reducible exact H2_) | with_reducible exact H | (rw [hy1613]; exact H) | exact H
       have Ny1613 := Aside0.mk hy1613
       clear hy1613
       have H' := Aside0.mk H
       clear H
       have p1610 : 0 ≤ (x11_1 : Int) := of_decide_eq_true (by first | (with_reducible assumption) | assumption)
       have q1610 : x11_1 < (l0_0.length : Int) := of_decide_eq_true (by first | (with_reducible assumption) | assumption)
       obtain ⟨ad1610, e1610, hx1610_0⟩ := Kd.at_int HR0_0.out x11_1 p1610 q1610
       cases e1610
       replace hx1610_0 := (HB.out.cell (World.block_lt_of_cell? w _ hx1610_0)).trans hx1610_0
       replace p1610 := eq_true p1610
       replace q1610 := eq_true q1610
       go_wp2_with (first | (go_at_call 130; (with_reducible refine (shares_claims_halves_1.calls k1 (rd l0_0 x11_1) t1611 t1612 _ A7.out).mono ?_); rintro e w9 ⟨rfl, hb⟩; have n0_ := Aside0.mk (Kd.R_below (by (with_reducible repeat (first | apply Kd.R_alloc | apply Kd.R_drewN | apply Kd.R_drew)); exact HO_5.out) hb); have n1_ := Aside0.mk (blk_below (g := gb1609) (o := .cells #[.slice (some ad1610) l0_0.length c0_0, .int .i64 a0_1] 94 (0, 0)) (by (with_reducible repeat (first | refine blk_drewN ?_ _ | refine blk_drew ?_ | refine blk_alloc ?_ _)); exact BK1609.out) hb); have n2_ := Aside0.mk (below_step (by repeat (first | (with_reducible first | exact HB.out | apply below_alloc | apply pw_below_drewN | apply below_drew1 | refine below_set ?_ GE1609.out) | exact HB.out)) hb); clear HO_5; clear BK1609; clear HB; have HO_5 := n0_; have BK1609 := n1_; have HB := n2_; clear n0_ n1_ n2_; (try clear hb); (try clear hb2); (try clear hk); (try clear hi)) | ((with_reducible refine gate_builtin (b := .append) (xs := #[.tmp 15, .tmp 19]) rfl ?_); at_builtin; refine Kd.R_append k23 (w0 := w) w.heap.size rfl (.tmp 15) (.tmp 19) 35 23 (.agg #[(.int .i64 0), (.int .i64 0)]) 16 rfl Try.underlying35 info23 rfl (by decide) (by omega) u5 x5_1 (⟨t1611, t1612⟩ : S23) [.int .i64 t1611, .int .i64 t1612] (fun _ => True) (fun _ => False) rfl rfl ?aP (fun _ hk => hk.elim) ?aF ?aO ?aB ?aS ?aL ?_; (case aP => exact k23_mkM _ _ _ (⟨t1611, t1612⟩ : S23)); (case aB => exact (by repeat (first | (with_reducible first | exact HB.out | apply below_alloc | apply pw_below_drewN | apply below_drew1 | refine below_set ?_ GE1609.out) | exact HB.out))); (case aF => exact (fun _ _ => trivial)); (case aO => exact (by (with_reducible repeat (first | apply Kd.R_alloc | apply Kd.R_drewN | apply Kd.R_drew)); exact HO_5.out)); (case aS => exact (below_size (by repeat (first | (with_reducible first | exact HB.out | apply below_alloc | apply pw_below_drewN | apply below_drew1 | refine below_set ?_ GE1609.out) | exact HB.out)))); (case aL => have := LMc8.out; omega); intro v1614 w10 ho hb hg hat; rw [← Ny1613.out] at ho; have n0_ := Aside0.mk (blk_grown (g := gb1609) (o := .cells #[.slice (some ad1610) l0_0.length c0_0, .int .i64 a0_1] 94 (0, 0)) (by (with_reducible repeat (first | refine blk_drewN ?_ _ | refine blk_drew ?_ | refine blk_alloc ?_ _)); exact BK1609.out) hg (Kd.R_ne HO_5.out BK1609.out (by decide))); have n1_ := Aside0.mk (hb); have n2_ := Aside0.mk (ho); clear BK1609; clear HB; clear HO_5; have BK1609 := n0_; have HB := n1_; have HO1615 := n2_; clear n0_ n1_ n2_; clear ho hb hg hat))
       go_roundg k1
       case measure => have := HK1.out; omega
       case rel => exact ⟨(y1613), (wrap64 (x11_1 + 1)), (by first | rfl | (simp; done) | (simp [*]; done)), H', ⟨by have := HK1.out; omega⟩, ⟨by (with_reducible repeat (first | apply Kd.R_alloc | apply Kd.R_drewN | apply Kd.R_drew)); exact HO1615.out⟩, ⟨by (with_reducible repeat (first | refine blk_drewN ?_ _ | refine blk_drew ?_ | refine blk_alloc ?_ _)); exact BK1609.out⟩, ⟨by repeat (first | (with_reducible first | exact HB.out | apply below_alloc | apply pw_below_drewN | apply below_drew1 | refine below_set ?_ GE1609.out) | exact HB.out)⟩⟩
      ·rw [if_neg c8] at H
       exact absurd H (by simp)
     ·rw [if_neg c6] at H
      exact absurd H (by simp)
    ·rw [if_neg c5] at H
     exact absurd H (by simp)
   ·rw [if_neg c4] at H
    have c4b0 : decide (x11_1 < (l0_0.length : Int)) = false := decide_eq_false c4
    clear c4
    obtain rfl := Option.some.inj H
    go_wp2
    go_ret
    exact ⟨_, by first | rfl | (simp [errW_none, errW_some] <;> rfl) | (simp [*, errW_none, errW_some] <;> rfl), by (with_reducible repeat (first | apply Kd.R_alloc | apply Kd.R_drewN | apply Kd.R_drew)); exact HO_5.out, by repeat (first | (with_reducible first | exact HB.out | apply below_alloc | apply pw_below_drewN | apply below_drew1 | refine below_set ?_ GE1609.out) | exact HB.out)⟩
end Go.Proofs.Ytjohcjfmlhihbaa.G

/- ### F123 -/
namespace Go.Proofs.Ytjohcjfmlhihbaa.G
open Go.RowKit Go.Proofs.YtjohcjfmlhihbaaW.PrintWords Go.Proofs.YtjohcjfmlhihbaaW.PrintLast Go.Proofs.YtjohcjfmlhihbaaW.PrintMore
attribute [local go_sem] cond_true cond_false fld23_0 fld23_1 fld45_0 fld45_1 fld109_0 fld109_1 fld94_0 fld94_1 max2_int min2_int max_two min_two max_three min_three max_four min_four   -- for this text's walks alone
set_option linter.unusedVariables false
set_option linter.unusedSimpArgs false
def shares_claims_halves.f (k : Nat) (l0_0 : List Int) (a0_1 : Int) : Option ((List (S23))) := (each_halves.f k l0_0 a0_1).bind fun t1617 => (some t1617)
theorem shares_claims_halves.mono : ∀ a0 a1 k, LeO (shares_claims_halves.f k a0 a1) (shares_claims_halves.f (k + 1) a0 a1) := by
 intro a0 a1 k
 unfold shares_claims_halves.f
 repeat' first
   | (with_reducible exact each_halves.mono _ _ _)
   | (with_reducible exact LeO.refl _)
   | (with_reducible exact LeO.none _)
   | (with_reducible refine LeO.ite ?_ ?_)
   | (with_reducible refine LeO.bind ?_ (fun _ => ?_))
   | exact each_halves.mono _ _ _
   | exact LeO.none _
   | refine LeO.ite ?_ ?_
   | refine LeO.bind ?_ (fun _ => ?_)
set_option maxHeartbeats 8000000 in
set_option maxRecDepth 100000 in
theorem shares_claims_halves.calls (k : Nat) (A0_0 : Option Addr) (c0_0 : Nat) (l0_0 : List Int) (a0_1 : Int) (r : List (S23)) (w : World) (hr0_0 : Kd.C (Kd.int .i64) w A0_0 l0_0.length l0_0) (hc0_0 : l0_0.length ≤ c0_0) (h : shares_claims_halves.f k l0_0 a0_1 = some r) :
  Calls Try.prog 123 #[.agg #[.slice A0_0 l0_0.length c0_0, .int .i64 a0_1]] w fun e w' => ∃ v0_ : Value, e = .returned (v0_) ∧ Kd.R k23 23 w' w.heap.size (fun _ => True) v0_ r ∧ Below w.heap.size w w' := by
 have hu94 := Try.underlying94
 have HR0_0 := Aside0.mk hr0_0
 have HC0_0 := Aside0.mk hc0_0
 clear hr0_0 hc0_0
 have HB := Aside0.mk (Below.refl w.heap.size w)
 have H : ((each_halves.f k l0_0 a0_1).bind fun t1617 => (some t1617)) = some r := h
 clear h
 replace H := Option.bind_eq_some_iff.mp H
 obtain ⟨t1617, A20, H⟩ := H
 replace H : (some t1617) = some r := H
 have A2 := Aside0.mk A20
 clear A20
 obtain rfl := Option.some.inj H
 go_enter Try.func123, Try.ntmps123
 go_wp2_with (first | ((with_reducible refine gate_dst (N := 1) rfl ?_); refine box_event ?hg (N := 1) ?hd (cs := #[.slice A0_0 l0_0.length c0_0, .int .i64 a0_1]) (t := 94) ?hr ?_; (case hd => rfl); (case hg => rfl); (case hr => first | (go_simp; done) | (go_simp; rfl)); intro gb1616 hg w3 hbox hb; have n0_ := Aside0.mk (below_step (by repeat (first | (with_reducible first | exact HB.out | apply below_alloc | apply pw_below_drewN | apply below_drew1) | exact HB.out)) hb); have n1_ := Aside0.mk (hbox); have n2_ := Aside0.mk ((by rw [hg]; exact (below_size (by repeat (first | (with_reducible first | exact HB.out | apply below_alloc | apply pw_below_drewN | apply below_drew1) | exact HB.out))) : w.heap.size ≤ gb1616)); have n3_ := Aside0.mk ((by rw [hg]; exact (below_size (by repeat (first | (with_reducible first | exact HB.out | apply below_alloc | apply pw_below_drewN | apply below_drew1) | exact HB.out))) : w.heap.size ≤ gb1616)); clear HB; have HB := n0_; have BK1616 := n1_; have GW1616 := n2_; have GE1616 := n3_; clear n0_ n1_ n2_ n3_; clear hb hbox hg; have hcz4_0 : w3.cell? ⟨gb1616, 0, none⟩ = some (.slice A0_0 l0_0.length c0_0) := (blk_cell BK1616.out 0).trans rfl; have hcz4_1 : w3.cell? ⟨gb1616, 1, none⟩ = some (.int .i64 a0_1) := (blk_cell BK1616.out 1).trans rfl; have hfz4_0 := blk_frozen BK1616.out 0; have hfz4_1 := blk_frozen BK1616.out 1) | ((with_reducible refine gate_callee (f := 120) rfl ?_); refine goesL_ (some 4) rfl rfl Try.func120 (by kernel_rfl) rfl #[.agg #[.slice A0_0 l0_0.length c0_0, .int .i64 a0_1], .func (.func 130) #[] #[]] rfl (by (try simp only [List.map_toArray, List.map_cons, List.map_nil]); first | done | rfl | (simp only [List.length_drop, List.length_take]; rfl)) ?_; (with_reducible refine (each_halves.calls k _ _ l0_0 a0_1 t1617 _ ?side1 ?side2 A2.out).mono ?_); (case side1 => repeat (first | exact (Kd.C_below HR0_0.out HB.out) | (with_reducible refine Kd.C_alloc ?_ _) | (with_reducible refine Kd.C_drewN ?_ _) | (with_reducible refine Kd.C_drew ?_))); (case side2 => exact HC0_0.out); rintro e w5 ⟨v1618, rfl, ho0, hb⟩; refine ⟨_, rfl, ?_⟩; have n0_ := Aside0.mk (Kd.R_lower ho0 (below_size (by repeat (first | (with_reducible first | exact HB.out | apply below_alloc | apply pw_below_drewN | apply below_drew1 | refine below_set ?_ GE1616.out) | exact HB.out)))); have n1_ := Aside0.mk (blk_below (g := gb1616) (o := .cells #[.slice A0_0 l0_0.length c0_0, .int .i64 a0_1] 94 (0, 0)) (by (with_reducible repeat (first | refine blk_drewN ?_ _ | refine blk_drew ?_ | refine blk_alloc ?_ _)); exact BK1616.out) hb); have n2_ := Aside0.mk (below_step (by repeat (first | (with_reducible first | exact HB.out | apply below_alloc | apply pw_below_drewN | apply below_drew1 | refine below_set ?_ GE1616.out) | exact HB.out)) hb); clear BK1616; clear HB; have HO1619 := n0_; have BK1616 := n1_; have HB := n2_; clear n0_ n1_ n2_; (try clear hb); (try clear hb2); (try clear hk); (try clear hi); (try clear ho0)))
 go_ret
 exact ⟨_, by first | rfl | (simp [errW_none, errW_some] <;> rfl) | (simp [*, errW_none, errW_some] <;> rfl), by (with_reducible repeat (first | apply Kd.R_alloc | apply Kd.R_drewN | apply Kd.R_drew)); exact HO1619.out, by repeat (first | (with_reducible first | exact HB.out | apply below_alloc | apply pw_below_drewN | apply below_drew1 | refine below_set ?_ GE1616.out) | exact HB.out)⟩
end Go.Proofs.Ytjohcjfmlhihbaa.G

/- ### F100 -/
namespace Go.Proofs.Ytjohcjfmlhihbaa.G
open Go.RowKit Go.Proofs.YtjohcjfmlhihbaaW.PrintWords Go.Proofs.YtjohcjfmlhihbaaW.PrintLast Go.Proofs.YtjohcjfmlhihbaaW.PrintMore
attribute [local go_sem] cond_true cond_false fld23_0 fld23_1 fld45_0 fld45_1 fld109_0 fld109_1 fld94_0 fld94_1 max2_int min2_int max_two min_two max_three min_three max_four min_four   -- for this text's walks alone
set_option linter.unusedVariables false
set_option linter.unusedSimpArgs false
def shares_claims_talmud.l0 : Nat → List (S23) → List (S23) → List Int → Int → Int → Option ((List (S23)))
 | 0, _, _, _, _, _ => none
 | k + 1, x3, x4, x31, x32, x33 => if x33 < x32 then (if 0 ≤ x33 then (if x33 < (x31.length : Int) then ((shares_whole.f (rd x31 x33)).bind fun bt1640 => (if x33 < (x3.length : Int) then ((shares_minus.f k bt1640.1 bt1640.2 ((rd_T23 x3 x33).f0) ((rd_T23 x3 x33).f1)).bind fun bt1643 => (if x4.length < 8796093022208 then (shares_claims_talmud.l0 k x3 (x4 ++ [(⟨bt1643.1, bt1643.2⟩ : S23)]) x31 x32 (wrap64 (x33 + 1))) else (none))) else (none))) else (none)) else (none)) else (some x4)
def shares_claims_talmud.f (k : Nat) (l0_0 : List Int) (a0_1 : Int) : Option ((List (S23))) := (shares_total.f k l0_0).bind fun t1621 => (if (wrap64 (2 * a0_1)) ≤ t1621 then ((shares_claims_halves.f k l0_0 a0_1).bind fun t1622 => ((shares_whole.f a0_1).bind fun bt1625 => ((shares_equal.f k t1622 bt1625.1 bt1625.2).bind fun t1627 => (some t1627)))) else ((shares_claims_halves.f k l0_0 a0_1).bind fun t1630 => ((shares_total.f k l0_0).bind fun t1633 => ((shares_whole.f (wrap64 (t1633 - a0_1))).bind fun bt1634 => ((shares_equal.f k t1630 bt1634.1 bt1634.2).bind fun t1636 => (shares_claims_talmud.l0 k t1636 ([] : List (S23)) l0_0 (l0_0.length : Int) 0))))))
theorem shares_claims_talmud.mono_l : ∀ k, (∀ y0 y1 y2 y3 y4, LeO (shares_claims_talmud.l0 k y0 y1 y2 y3 y4) (shares_claims_talmud.l0 (k + 1) y0 y1 y2 y3 y4))
 | 0 => fun _ _ _ _ _ r h => by simp [shares_claims_talmud.l0] at h
 | k + 1 => by
  have ih0 := shares_claims_talmud.mono_l k
  ·intro y0 y1 y2 y3 y4
   unfold shares_claims_talmud.l0
   repeat' first
   | (with_reducible exact ih0 _ _ _ _ _)
   | (with_reducible exact shares_claims_halves.mono _ _ _)
   | (with_reducible exact shares_equal.mono _ _ _ _)
   | (with_reducible exact shares_minus.mono _ _ _ _ _)
   | (with_reducible exact shares_total.mono _ _)
   | (with_reducible exact LeO.refl _)
   | (with_reducible exact LeO.none _)
   | (with_reducible refine LeO.ite ?_ ?_)
   | (with_reducible refine LeO.bind ?_ (fun _ => ?_))
   | exact ih0 _ _ _ _ _
   | exact shares_claims_halves.mono _ _ _
   | exact shares_equal.mono _ _ _ _
   | exact shares_minus.mono _ _ _ _ _
   | exact shares_total.mono _ _
   | exact LeO.none _
   | refine LeO.ite ?_ ?_
   | refine LeO.bind ?_ (fun _ => ?_)
theorem shares_claims_talmud.mono : ∀ a0 a1 k, LeO (shares_claims_talmud.f k a0 a1) (shares_claims_talmud.f (k + 1) a0 a1) := by
 intro a0 a1 k
 have ih0 := shares_claims_talmud.mono_l k
 unfold shares_claims_talmud.f
 repeat' first
   | (with_reducible exact ih0 _ _ _ _ _)
   | (with_reducible exact shares_claims_halves.mono _ _ _)
   | (with_reducible exact shares_equal.mono _ _ _ _)
   | (with_reducible exact shares_minus.mono _ _ _ _ _)
   | (with_reducible exact shares_total.mono _ _)
   | (with_reducible exact LeO.refl _)
   | (with_reducible exact LeO.none _)
   | (with_reducible refine LeO.ite ?_ ?_)
   | (with_reducible refine LeO.bind ?_ (fun _ => ?_))
   | exact ih0 _ _ _ _ _
   | exact shares_claims_halves.mono _ _ _
   | exact shares_equal.mono _ _ _ _
   | exact shares_minus.mono _ _ _ _ _
   | exact shares_total.mono _ _
   | exact LeO.none _
   | refine LeO.ite ?_ ?_
   | refine LeO.bind ?_ (fun _ => ?_)
def shares_claims_talmud.T3 : Bool × List (List Nat × List Nat) := (true, [([], []), ([0], [0]), ([], []), ([2], [2]), ([3, 1], [3]), ([], []), ([5], [5]), ([4, 6], [4, 6]), ([7, 4], [7]), ([1, 8, 8], [1, 8]), ([9, 9, 0, 1, 2, 3, 4, 5, 6, 7, 8, 9], [9])])
def shares_claims_talmud.B3 : List Nat := [0, 1, 0, 4, 15, 0, 32, 127, 255, 511, 1023]
theorem shares_claims_talmud.tab3 : rtab .any (opsOf Try.f100 3) = shares_claims_talmud.T3 := by kernel_rfl
theorem shares_claims_talmud.bits3 : waitsOk shares_claims_talmud.T3.2 shares_claims_talmud.B3 = true := by kernel_rfl
def shares_claims_talmud.T8 : Bool × List (List Nat × List Nat) := (true, [([], []), ([], []), ([1], [1]), ([], []), ([], []), ([3, 4], [3, 4]), ([5], [5]), ([2, 6, 2], [2, 6]), ([7], [7]), ([0, 8, 7], [0, 8]), ([9, 9, 0, 1, 2, 3, 4, 5, 6, 7, 8, 9], [0, 9])])
def shares_claims_talmud.B8 : List Nat := [0, 0, 2, 0, 0, 24, 56, 126, 254, 511, 1023]
theorem shares_claims_talmud.tab8 : rtab .any (opsOf Try.f100 8) = shares_claims_talmud.T8 := by kernel_rfl
theorem shares_claims_talmud.bits8 : waitsOk shares_claims_talmud.T8.2 shares_claims_talmud.B8 = true := by kernel_rfl
set_option maxHeartbeats 8000000 in
set_option maxRecDepth 100000 in
theorem shares_claims_talmud.calls (k : Nat) (A0_0 : Option Addr) (c0_0 : Nat) (l0_0 : List Int) (a0_1 : Int) (r : List (S23)) (w : World) (hr0_0 : Kd.C (Kd.int .i64) w A0_0 l0_0.length l0_0) (hc0_0 : l0_0.length ≤ c0_0) (h : shares_claims_talmud.f k l0_0 a0_1 = some r) :
  Calls Try.prog 100 #[.agg #[.slice A0_0 l0_0.length c0_0, .int .i64 a0_1]] w fun e w' => ∃ v0_ : Value, e = .returned (v0_) ∧ Kd.R k23 23 w' w.heap.size (fun _ => True) v0_ r ∧ Below w.heap.size w w' := by
 have hu94 := Try.underlying94
 have hu23 := Try.underlying23
 have HR0_0 := A_ hr0_0
 have HC0_0 := A_ hc0_0
 clear hr0_0 hc0_0
 have HB := A_ (Below.refl w.heap.size w)
 have H : ((shares_total.f k l0_0).bind fun t1621 => (if (wrap64 (2 * a0_1)) ≤ t1621 then ((shares_claims_halves.f k l0_0 a0_1).bind fun t1622 => ((shares_whole.f a0_1).bind fun bt1625 => ((shares_equal.f k t1622 bt1625.1 bt1625.2).bind fun t1627 => (some t1627)))) else ((shares_claims_halves.f k l0_0 a0_1).bind fun t1630 => ((shares_total.f k l0_0).bind fun t1633 => ((shares_whole.f (wrap64 (t1633 - a0_1))).bind fun bt1634 => ((shares_equal.f k t1630 bt1634.1 bt1634.2).bind fun t1636 => (shares_claims_talmud.l0 k t1636 ([] : List (S23)) l0_0 (l0_0.length : Int) 0))))))) = some r := h
 clear h
 replace H := Option.bind_eq_some_iff.mp H
 obtain ⟨t1621, A20, H⟩ := H
 replace H : (if (wrap64 (2 * a0_1)) ≤ t1621 then ((shares_claims_halves.f k l0_0 a0_1).bind fun t1622 => ((shares_whole.f a0_1).bind fun bt1625 => ((shares_equal.f k t1622 bt1625.1 bt1625.2).bind fun t1627 => (some t1627)))) else ((shares_claims_halves.f k l0_0 a0_1).bind fun t1630 => ((shares_total.f k l0_0).bind fun t1633 => ((shares_whole.f (wrap64 (t1633 - a0_1))).bind fun bt1634 => ((shares_equal.f k t1630 bt1634.1 bt1634.2).bind fun t1636 => (shares_claims_talmud.l0 k t1636 ([] : List (S23)) l0_0 (l0_0.length : Int) 0)))))) = some r := H
 have A2 := A_ A20
 clear A20
 by_cases c3 : (wrap64 (2 * a0_1)) ≤ t1621
 ·rw [if_pos c3] at H
  have c3b0 : decide ((wrap64 (2 * a0_1)) ≤ t1621) = true := decide_eq_true c3
  clear c3
  replace H := Option.bind_eq_some_iff.mp H
  obtain ⟨t1622, A40, H⟩ := H
  replace H : ((shares_whole.f a0_1).bind fun bt1625 => ((shares_equal.f k t1622 bt1625.1 bt1625.2).bind fun t1627 => (some t1627))) = some r := H
  have A4 := A_ A40
  clear A40
  replace H := Option.bind_eq_some_iff.mp H
  obtain ⟨⟨t1625, t1626⟩, A50, H⟩ := H
  dsimp only at H
  have A5 := A_ A50
  clear A50
  replace H := Option.bind_eq_some_iff.mp H
  obtain ⟨t1627, A60, H⟩ := H
  replace H : (some t1627) = some r := H
  have A6 := A_ A60
  clear A60
  obtain rfl := Option.some.inj H
  go_enter Try.func100, Try.ntmps100
  try go_wp2_with (first | ((with_reducible refine gate_dst (N := 1) rfl ?_); refine box_event ?hg (N := 1) ?hd (cs := #[.slice A0_0 l0_0.length c0_0, .int .i64 a0_1]) (t := 94) ?hr ?_; (case hd => rfl); (case hg => rfl); (case hr => first | (go_simp; done) | (go_simp; rfl)); intro gb1620 hg w7 hbox hb; have BK1620 := A_ hbox; have GW1620 := gw hg HB; have GE1620 := GW1620; replace HB := bB HB hb; clear hb hbox hg))
  replace BK1620 := A_ (blk_drew BK1620.out)
  replace HB := A_ (below_drew1 HB.out)
  refine start_ (n := 7) (S := fun w' => w'.cell? ⟨gb1620, 0, none⟩ = some (.slice A0_0 l0_0.length c0_0) ∧ w'.cell? ⟨gb1620, 1, none⟩ = some (.int .i64 a0_1)) (ds := []) (ba 7 0) (by kernel_rfl) rfl rfl ⟨cz BK1620 0, cz BK1620 1⟩ (fun hHeld => ?_)
  generalize w7.drew = w8 at BK1620 HB hHeld ⊢
  refine pr 0 7 1 ?_
  refine pr 3 10 9 ?_
  refine tr 1 8 11 hHeld ?_
  refine pr 2 9 15 ?_
  refine tr 4 11 31 hHeld ?_
  refine os 5 12 63 (fun K hK => ?_)
  refine gq Try.func93 #[.slice A0_0 l0_0.length c0_0] ?_
  with_reducible refine (shares_total.calls k _ _ l0_0 t1621 _ ?side1 ?side2 A2.out).mono ?_
  (case side1 => exact cB HR0_0 HB)
  (case side2 => exact HC0_0.out)
  rintro e w' ⟨rfl, ⟨nd, rfl⟩⟩
  refine ⟨_, rfl, ?_⟩
  refine hK.out _ _ ⟨cz BK1620 0, cz BK1620 1⟩ (fun hHeld => ?_)
  clear hK K
  refine nq 12 ?_
  refine pr 6 13 127 ?_
  refine done_ (by kernel_rfl) ?_
  try go_wp2
  (try (rw [drewN_self w8]; generalize hq_ : World.drewN w8 _ = w8; have n0_ : Aside0 (w8.heap[gb1620]? = some (.cells #[.slice A0_0 l0_0.length c0_0, .int .i64 a0_1] 94 (0, 0))) := ⟨by rw [← hq_]; exact BK1620.out⟩; have n1_ : Aside0 (Below w.heap.size w w8) := ⟨by rw [← hq_]; exact (bl HB)⟩; clear BK1620 HB hq_; have BK1620 := n0_; have HB := n1_; clear n0_ n1_))
  replace BK1620 := A_ (blk_drew BK1620.out)
  replace HB := A_ (below_drew1 HB.out)
  refine start_ (n := 7) (S := fun w' => w'.cell? ⟨gb1620, 0, none⟩ = some (.slice A0_0 l0_0.length c0_0) ∧ w'.cell? ⟨gb1620, 1, none⟩ = some (.int .i64 a0_1)) (ds := []) (ba 7 0) (by kernel_rfl) rfl rfl ⟨cz BK1620 0, cz BK1620 1⟩ (fun hHeld => ?_)
  generalize w8.drew = w9 at BK1620 HB hHeld ⊢
  refine pr 2 16 4 ?_
  refine tr 0 14 5 hHeld ?_
  refine tr 3 17 13 hHeld ?_
  refine os 1 15 15 (fun K hK => ?_)
  refine gq Try.func123 #[.agg #[.slice A0_0 l0_0.length c0_0, .int .i64 a0_1]] ?_
  with_reducible refine (shares_claims_halves.calls k _ _ l0_0 a0_1 t1622 _ ?side1 ?side2 A4.out).mono ?_
  (case side1 => exact cB HR0_0 HB)
  (case side2 => exact HC0_0.out)
  rintro e w10 ⟨v1623, rfl, ho0, hb⟩
  refine ⟨_, rfl, ?_⟩
  have HO1624 := A_ (Kd.R_lower ho0 (below_size (bl HB)))
  replace BK1620 := kB BK1620 hb
  replace HB := bB HB hb
  (try clear hb)
  (try clear hb2)
  (try clear hk)
  (try clear hi)
  (try clear ho0)
  refine hK.out _ _ ⟨cz BK1620 0, cz BK1620 1⟩ (fun hHeld => ?_)
  clear hK K
  refine nq 15 ?_
  refine os 4 18 31 (fun K hK => ?_)
  refine gq Try.func64 #[.int .i64 a0_1] ?_
  with_reducible refine (shares_whole.calls a0_1 t1625 t1626 _ A5.out).mono ?_
  rintro e w11 ⟨rfl, hb⟩
  refine ⟨_, rfl, ?_⟩
  replace HO1624 := rB HO1624 hb
  replace BK1620 := kB BK1620 hb
  replace HB := bB HB hb
  (try clear hb)
  (try clear hb2)
  (try clear hk)
  (try clear hi)
  obtain ⟨Ao12, co12, eo12⟩ := Kd.R_slice HO1624.out
  (first | subst eo12 | (injection eo12 with f1_ f2_ f3_; have f4_ := f1_.symm; have f5_ := f3_.symm; clear f1_ f2_ f3_; subst f4_; subst f5_))
  refine hK.out _ _ ⟨cz BK1620 0, cz BK1620 1⟩ (fun hHeld => ?_)
  clear hK K
  refine nq 18 ?_
  refine os 5 19 63 (fun K hK => ?_)
  refine gq Try.func122 #[.slice Ao12 t1622.length co12, .agg #[.int .i64 t1625, .int .i64 t1626]] ?_
  with_reducible refine (shares_equal.calls k _ _ t1622 t1625 t1626 t1627 _ ?side1 ?side2 A6.out).mono ?_
  (case side1 => repeat (first | exact (Kd.R_reads' HO1624.out).2.2 | (with_reducible refine Kd.C_alloc ?_ _) | (with_reducible refine Kd.C_drewN ?_ _) | (with_reducible refine Kd.C_drew ?_)))
  (case side2 => exact (Kd.R_reads' HO1624.out).2.1)
  rintro e w13 ⟨v1628, rfl, ho0, hb⟩
  refine ⟨_, rfl, ?_⟩
  have HO1629 := A_ (Kd.R_lower (Kd.R_new' ho0 (Kd.R_lt HO1624.out)) (below_size HB.out))
  replace HO1624 := A_ (Kd.R_elder' HO1624.out (Kd.R_base ho0) hb)
  replace BK1620 := kB BK1620 hb
  replace HB := bB HB hb
  (try clear hb)
  (try clear hb2)
  (try clear hk)
  (try clear hi)
  (try clear ho0)
  refine hK.out _ _ ⟨cz BK1620 0, cz BK1620 1⟩ (fun hHeld => ?_)
  clear hK K
  refine nq 19 ?_
  refine pr 6 2 127 ?_
  refine done_ (by kernel_rfl) ?_
  try go_wp2
  go_ret
  exact ⟨_, rfl, by exact Kd.R_mono HO1629.out (fun _ hk => trivial), by repeat (first | (with_reducible first | exact HB.out | apply below_alloc | apply pw_below_drewN | apply below_drew1 | refine below_set ?_ GE1620.out) | exact HB.out)⟩
 ·rw [if_neg c3] at H
  have c3b0 : decide ((wrap64 (2 * a0_1)) ≤ t1621) = false := decide_eq_false c3
  clear c3
  replace H := Option.bind_eq_some_iff.mp H
  obtain ⟨t1630, A140, H⟩ := H
  replace H : ((shares_total.f k l0_0).bind fun t1633 => ((shares_whole.f (wrap64 (t1633 - a0_1))).bind fun bt1634 => ((shares_equal.f k t1630 bt1634.1 bt1634.2).bind fun t1636 => (shares_claims_talmud.l0 k t1636 ([] : List (S23)) l0_0 (l0_0.length : Int) 0)))) = some r := H
  have A14 := A_ A140
  clear A140
  replace H := Option.bind_eq_some_iff.mp H
  obtain ⟨t1633, A150, H⟩ := H
  replace H : ((shares_whole.f (wrap64 (t1633 - a0_1))).bind fun bt1634 => ((shares_equal.f k t1630 bt1634.1 bt1634.2).bind fun t1636 => (shares_claims_talmud.l0 k t1636 ([] : List (S23)) l0_0 (l0_0.length : Int) 0))) = some r := H
  have A15 := A_ A150
  clear A150
  replace H := Option.bind_eq_some_iff.mp H
  obtain ⟨⟨t1634, t1635⟩, A160, H⟩ := H
  dsimp only at H
  have A16 := A_ A160
  clear A160
  replace H := Option.bind_eq_some_iff.mp H
  obtain ⟨t1636, A170, H⟩ := H
  replace H : (shares_claims_talmud.l0 k t1636 ([] : List (S23)) l0_0 (l0_0.length : Int) 0) = some r := H
  have A17 := A_ A170
  clear A170
  have H' := A_ H
  clear H
  go_enter Try.func100, Try.ntmps100
  try go_wp2_with (first | ((with_reducible refine gate_dst (N := 1) rfl ?_); refine box_event ?hg (N := 1) ?hd (cs := #[.slice A0_0 l0_0.length c0_0, .int .i64 a0_1]) (t := 94) ?hr ?_; (case hd => rfl); (case hg => rfl); (case hr => first | (go_simp; done) | (go_simp; rfl)); intro gb1620 hg w18 hbox hb; have BK1620 := A_ hbox; have GW1620 := gw hg HB; have GE1620 := GW1620; replace HB := bB HB hb; clear hb hbox hg))
  replace BK1620 := A_ (blk_drew BK1620.out)
  replace HB := A_ (below_drew1 HB.out)
  refine start_ (n := 7) (S := fun w' => w'.cell? ⟨gb1620, 0, none⟩ = some (.slice A0_0 l0_0.length c0_0) ∧ w'.cell? ⟨gb1620, 1, none⟩ = some (.int .i64 a0_1)) (ds := []) (ba 7 0) (by kernel_rfl) rfl rfl ⟨cz BK1620 0, cz BK1620 1⟩ (fun hHeld => ?_)
  generalize w18.drew = w19 at BK1620 HB hHeld ⊢
  refine pr 0 7 1 ?_
  refine pr 3 10 9 ?_
  refine tr 1 8 11 hHeld ?_
  refine pr 2 9 15 ?_
  refine tr 4 11 31 hHeld ?_
  refine os 5 12 63 (fun K hK => ?_)
  refine gq Try.func93 #[.slice A0_0 l0_0.length c0_0] ?_
  with_reducible refine (shares_total.calls k _ _ l0_0 t1621 _ ?side1 ?side2 A2.out).mono ?_
  (case side1 => exact cB HR0_0 HB)
  (case side2 => exact HC0_0.out)
  rintro e w' ⟨rfl, ⟨nd, rfl⟩⟩
  refine ⟨_, rfl, ?_⟩
  refine hK.out _ _ ⟨cz BK1620 0, cz BK1620 1⟩ (fun hHeld => ?_)
  clear hK K
  refine nq 12 ?_
  refine pr 6 13 127 ?_
  refine done_ (by kernel_rfl) ?_
  try go_wp2
  (try (rw [drewN_self w19]; generalize hq_ : World.drewN w19 _ = w19; have n0_ : Aside0 (w19.heap[gb1620]? = some (.cells #[.slice A0_0 l0_0.length c0_0, .int .i64 a0_1] 94 (0, 0))) := ⟨by rw [← hq_]; exact BK1620.out⟩; have n1_ : Aside0 (Below w.heap.size w w19) := ⟨by rw [← hq_]; exact (bl HB)⟩; clear BK1620 HB hq_; have BK1620 := n0_; have HB := n1_; clear n0_ n1_))
  replace BK1620 := A_ (blk_drew BK1620.out)
  replace HB := A_ (below_drew1 HB.out)
  refine start_ (n := 11) (S := fun w' => w'.cell? ⟨gb1620, 0, none⟩ = some (.slice A0_0 l0_0.length c0_0) ∧ w'.cell? ⟨gb1620, 1, none⟩ = some (.int .i64 a0_1)) (ds := []) (ba 11 0) (by kernel_rfl) rfl rfl ⟨cz BK1620 0, cz BK1620 1⟩ (fun hHeld => ?_); refine with_tabW shares_claims_talmud.tab3 shares_claims_talmud.bits3 (fun HT_ HW_ => ?_)
  generalize w19.drew = w20 at BK1620 HB hHeld ⊢
  refine pq 2 22 4 HT_ ?_
  refine pq 5 25 36 HT_ ?_
  refine tq 0 20 37 HT_ HW_ hHeld ?_
  refine tq 3 23 45 HT_ HW_ hHeld ?_
  refine tq 6 26 109 HT_ HW_ hHeld ?_
  refine oq 1 21 111 HT_ (fun K hK => ?_)
  refine gq Try.func123 #[.agg #[.slice A0_0 l0_0.length c0_0, .int .i64 a0_1]] ?_
  with_reducible refine (shares_claims_halves.calls k _ _ l0_0 a0_1 t1630 _ ?side1 ?side2 A14.out).mono ?_
  (case side1 => exact cB HR0_0 HB)
  (case side2 => exact HC0_0.out)
  rintro e w21 ⟨v1631, rfl, ho0, hb⟩
  refine ⟨_, rfl, ?_⟩
  have HO1632 := A_ (Kd.R_lower ho0 (below_size (bl HB)))
  replace BK1620 := kB BK1620 hb
  replace HB := bB HB hb
  (try clear hb)
  (try clear hb2)
  (try clear hk)
  (try clear hi)
  (try clear ho0)
  refine hK.out _ _ ⟨cz BK1620 0, cz BK1620 1⟩ (fun hHeld => ?_)
  clear hK K
  refine nq 21 ?_
  refine oq 4 24 127 HT_ (fun K hK => ?_)
  refine gq Try.func93 #[.slice A0_0 l0_0.length c0_0] ?_
  with_reducible refine (shares_total.calls k _ _ l0_0 t1633 _ ?side1 ?side2 A15.out).mono ?_
  (case side1 => exact cB HR0_0 HB)
  (case side2 => exact HC0_0.out)
  rintro e w' ⟨rfl, ⟨nd, rfl⟩⟩
  refine ⟨_, rfl, ?_⟩
  refine hK.out _ _ ⟨cz BK1620 0, cz BK1620 1⟩ (fun hHeld => ?_)
  clear hK K
  refine nq 24 ?_
  refine pq 7 27 255 HT_ ?_
  refine oq 8 28 511 HT_ (fun K hK => ?_)
  refine gq Try.func64 #[.int .i64 (wrap64 (t1633 - a0_1))] ?_
  with_reducible refine (shares_whole.calls (wrap64 (t1633 - a0_1)) t1634 t1635 _ A16.out).mono ?_
  rintro e w22 ⟨rfl, hb⟩
  refine ⟨_, rfl, ?_⟩
  replace HO1632 := rB HO1632 hb
  replace BK1620 := kB BK1620 hb
  replace HB := bB HB hb
  (try clear hb)
  (try clear hb2)
  (try clear hk)
  (try clear hi)
  obtain ⟨Ao23, co23, eo23⟩ := Kd.R_slice HO1632.out
  (first | subst eo23 | (injection eo23 with f1_ f2_ f3_; have f4_ := f1_.symm; have f5_ := f3_.symm; clear f1_ f2_ f3_; subst f4_; subst f5_))
  refine hK.out _ _ ⟨cz BK1620 0, cz BK1620 1⟩ (fun hHeld => ?_)
  clear hK K
  refine nq 28 ?_
  refine oq 9 29 1023 HT_ (fun K hK => ?_)
  refine gq Try.func122 #[.slice Ao23 t1630.length co23, .agg #[.int .i64 t1634, .int .i64 t1635]] ?_
  with_reducible refine (shares_equal.calls k _ _ t1630 t1634 t1635 t1636 _ ?side1 ?side2 A17.out).mono ?_
  (case side1 => repeat (first | exact (Kd.R_reads' HO1632.out).2.2 | (with_reducible refine Kd.C_alloc ?_ _) | (with_reducible refine Kd.C_drewN ?_ _) | (with_reducible refine Kd.C_drew ?_)))
  (case side2 => exact (Kd.R_reads' HO1632.out).2.1)
  rintro e w24 ⟨v1637, rfl, ho0, hb⟩
  refine ⟨_, rfl, ?_⟩
  have HO1638 := A_ (Kd.R_lower (Kd.R_new' ho0 (Kd.R_lt HO1632.out)) (below_size HB.out))
  replace HO1632 := A_ (Kd.R_elder' HO1632.out (Kd.R_base ho0) hb)
  replace BK1620 := kB BK1620 hb
  replace HB := bB HB hb
  (try clear hb)
  (try clear hb2)
  (try clear hk)
  (try clear hi)
  (try clear ho0)
  refine hK.out _ _ ⟨cz BK1620 0, cz BK1620 1⟩ (fun hHeld => ?_)
  clear hK K
  refine nq 29 ?_
  refine pq 10 3 2047 HT_ ?_
  refine done_ (done_of HT_.out (by kernel_rfl)) ?_
  have hcz25_0 : w24.cell? ⟨gb1620, 0, none⟩ = some (.slice A0_0 l0_0.length c0_0) := cz BK1620 0
  have hcz25_1 : w24.cell? ⟨gb1620, 1, none⟩ = some (.int .i64 a0_1) := cz BK1620 1
  have hfz25_0 := blk_frozen BK1620.out 0
  have hfz25_1 := blk_frozen BK1620.out 1
  try go_wp2
  go_loopg [4, 33] k (fun kq v4 v33 w' => ∃ (x4_1 : List (S23)) (x33_1 : Int), v33 = .int .i64 x33_1 ∧ Aside0 (shares_claims_talmud.l0 kq t1636 x4_1 l0_0 (l0_0.length : Int) x33_1 = some r) ∧ Aside0 (kq ≤ k) ∧ Aside0 (Kd.R k23 23 w' w.heap.size (fun k_ => some k_ ≠ (v4 : Value).ownBlock) v1637 t1636) ∧ Aside0 (Kd.R k23 23 w' w.heap.size (fun k_ => some k_ ≠ (v1637 : Value).ownBlock) v4 x4_1) ∧ Aside0 (w'.heap[gb1620]? = some (.cells #[(.slice A0_0 l0_0.length c0_0), .int .i64 a0_1] 94 (0, 0))) ∧ Aside0 (Below w.heap.size w w'))
  case atStart => exact ⟨(([] : List (S23))), (0), rfl, H', ⟨Nat.le_refl _⟩, ⟨by exact Kd.R_mono HO1638.out (fun _ hk => (by simp [Value.ownBlock]))⟩, ⟨by first | exact Kd.R_nil _ _ _ _ _ | exact Kd.N_nil _ _ _ _ _ | exact Kd.V_nil _ _ _ _ _ | exact Kd.Q_nil _ _ _ _ _ | exact Kd.S_nil _ _ _ _ _⟩, ⟨by exact BK1620.out⟩, ⟨by repeat (first | (with_reducible first | exact HB.out | apply below_alloc | apply pw_below_drewN | apply below_drew1 | refine below_set ?_ GE1620.out) | exact HB.out)⟩⟩
  case round =>
   clear H'
   try clear c1
   try clear p2
   try clear c3
   try clear c3b0
   try clear c6
   try clear p6
   try clear c9
   try clear c10
   try clear c12
   try clear hcz25_0
   try clear hcz25_1
   try clear hfz25_0
   try clear hfz25_1
   obtain ⟨x4_1, x33_1, rfl, HA, HK1, HO_3, HO_4, BK1620, HB⟩ := hrel
   cases gk with
   | zero => exact absurd HA.out (by simp [shares_claims_talmud.l0])
   | succ k1 =>
    have H := HA.out
    clear HA
    simp only [shares_claims_talmud.l0] at H
    by_cases c26 : x33_1 < (l0_0.length : Int)
    ·rw [if_pos c26] at H
     have c26b0 : decide (x33_1 < (l0_0.length : Int)) = true := decide_eq_true c26
     clear c26
     by_cases c27 : 0 ≤ x33_1
     ·rw [if_pos c27] at H
      have c27b0 : decide (0 ≤ x33_1) = true := decide_eq_true c27
      clear c27
      by_cases c28 : x33_1 < (l0_0.length : Int)
      ·rw [if_pos c28] at H
       have c28b0 : decide (x33_1 < (l0_0.length : Int)) = true := decide_eq_true c28
       clear c28
       replace H := Option.bind_eq_some_iff.mp H
       obtain ⟨⟨t1640, t1641⟩, A290, H⟩ := H
       dsimp only at H
       have A29 := A_ A290
       clear A290
       by_cases c30 : x33_1 < (t1636.length : Int)
       ·rw [if_pos c30] at H
        have c30b0 : decide (x33_1 < (t1636.length : Int)) = true := decide_eq_true c30
        clear c30
        replace H := Option.bind_eq_some_iff.mp H
        obtain ⟨⟨t1643, t1644⟩, A310, H⟩ := H
        dsimp only at H
        have A31 := A_ A310
        clear A310
        by_cases c32 : x4_1.length < 8796093022208
        ·rw [if_pos c32] at H
         have LMc32 := A_ c32
         clear c32
         obtain ⟨y1645, hy1645⟩ : ∃ y_ : List (S23), y_ = (x4_1 ++ [(⟨t1643, t1644⟩ : S23)]) := ⟨_, rfl⟩
         replace H : (shares_claims_talmud.l0 k1 t1636 y1645 l0_0 (l0_0.length : Int) (wrap64 (x33_1 + 1))) = some r := by rw [hy1645]; exact H
         have Ny1645 := A_ hy1645
         clear hy1645
         have H' := A_ H
         clear H
         have p1639 : 0 ≤ (x33_1 : Int) := of_decide_eq_true (by assumption)
         have q1639 : x33_1 < (l0_0.length : Int) := of_decide_eq_true (by assumption)
         obtain ⟨ad1639, e1639, hx1639_0⟩ := Kd.at_int HR0_0.out x33_1 p1639 q1639
         cases e1639
         replace hx1639_0 := (HB.out.cell (World.block_lt_of_cell? w _ hx1639_0)).trans hx1639_0
         replace p1639 := eq_true p1639
         replace q1639 := eq_true q1639
         try go_wp2
         replace HO_3 := A_ (Kd.R_drew HO_3.out)
         replace HO_4 := A_ (Kd.R_drew HO_4.out)
         replace BK1620 := A_ (blk_drew BK1620.out)
         replace HB := A_ (below_drew1 HB.out)
         obtain ⟨Ao34, co34, eo34⟩ := Kd.R_slice HO_3.out
         (first | subst eo34 | (injection eo34 with f1_ f2_ f3_; have f4_ := f1_.symm; have f5_ := f3_.symm; clear f1_ f2_ f3_; subst f4_; subst f5_))
         have p1642 : 0 ≤ (x33_1 : Int) := of_decide_eq_true (by assumption)
         have q1642 : x33_1 < (t1636.length : Int) := of_decide_eq_true (by assumption)
         obtain ⟨ad1642, e1642, hx1642_0, hx1642_1⟩ := at_T23 (Kd.R_reads' HO_3.out).2.2 x33_1 p1642 q1642
         cases e1642
         replace p1642 := eq_true p1642
         replace q1642 := eq_true q1642
         refine start_ (n := 11) (S := fun w' => w'.cell? (ad1642.add ((x33_1).toNat * 2)) = some (.int .i64 ((rd_T23 t1636 x33_1).f0)) ∧ w'.cell? ⟨(ad1642.add ((x33_1).toNat * 2)).block, (ad1642.add ((x33_1).toNat * 2)).off + 1, none⟩ = some (.int .i64 ((rd_T23 t1636 x33_1).f1))) (ds := [8, 9]) (ba 11 0) (by kernel_rfl) rfl rfl ⟨hx1642_0, hx1642_1⟩ (fun hHeld => ?_); refine with_tabW shares_claims_talmud.tab8 shares_claims_talmud.bits8 (fun HT_ HW_ => ?_)
         generalize wr.drew = w33 at HO_3 HO_4 BK1620 HB hx1642_0 hx1642_1 hHeld ⊢
         refine pq 0 38 1 HT_ ?_
         refine pq 1 39 3 HT_ ?_
         refine pq 3 41 11 HT_ ?_
         refine pq 4 42 27 HT_ ?_
         refine pq 5 43 59 HT_ ?_
         refine tq 6 44 123 HT_ HW_ hHeld ?_
         refine oq 2 40 127 HT_ (fun K hK => ?_)
         refine gq Try.func64 #[.int .i64 (rd l0_0 x33_1)] ?_
         with_reducible refine (shares_whole.calls (rd l0_0 x33_1) t1640 t1641 _ A29.out).mono ?_
         rintro e w35 ⟨rfl, hb⟩
         have HS0_ := (hb.cell (World.block_lt_of_cell? _ _ (hHeld.1))).trans (hHeld.1)
         have HS1_ := (hb.cell (World.block_lt_of_cell? _ _ (hHeld.2))).trans (hHeld.2)
         refine ⟨_, rfl, ?_⟩
         replace HO_3 := rB HO_3 hb
         replace HO_4 := rB HO_4 hb
         replace BK1620 := kB BK1620 hb
         replace HB := bB HB hb
         (try clear hb)
         (try clear hb2)
         (try clear hk)
         (try clear hi)
         refine hK.out _ _ ⟨HS0_, HS1_⟩ (fun hHeld => ?_)
         clear hK K
         refine nq 40 ?_
         refine oq 7 45 255 HT_ (fun K hK => ?_)
         refine gq Try.func95 #[.agg #[.int .i64 t1640, .int .i64 t1641], .agg #[.int .i64 ((rd_T23 t1636 x33_1).f0), .int .i64 ((rd_T23 t1636 x33_1).f1)]] ?_
         with_reducible refine (shares_minus.calls k1 t1640 t1641 ((rd_T23 t1636 x33_1).f0) ((rd_T23 t1636 x33_1).f1) t1643 t1644 _ A31.out).mono ?_
         rintro e w36 ⟨rfl, hb⟩
         have HS0_ := (hb.cell (World.block_lt_of_cell? _ _ (hHeld.1))).trans (hHeld.1)
         have HS1_ := (hb.cell (World.block_lt_of_cell? _ _ (hHeld.2))).trans (hHeld.2)
         refine ⟨_, rfl, ?_⟩
         replace HO_3 := rB HO_3 hb
         replace HO_4 := rB HO_4 hb
         replace BK1620 := kB BK1620 hb
         replace HB := bB HB hb
         (try clear hb)
         (try clear hb2)
         (try clear hk)
         (try clear hi)
         refine hK.out _ _ ⟨HS0_, HS1_⟩ (fun hHeld => ?_)
         clear hK K
         refine nq 45 ?_
         refine last_ (i := 8) (N := some 46) (ba 11 511) rfl rfl (one_of HT_.out (by kernel_rfl)) (by decide) (fun K hK => ?_)
         refine value_ (w1 := ?_) (v := ?_) (by rfl) rfl ?_ ?_
         rotate_left 2
         ·go_simp
          constructor
          ·rfl
          ·rfl
         refine hK.out _ _ ?_
         clear hK K
         refine nq 46 ?_
         refine last_ (i := 9) (N := some 47) (ba 11 1023) rfl rfl (one_of HT_.out (by kernel_rfl)) (by decide) (fun K hK => ?_)
         refine Kd.R_append_step k23 (w0 := w) w.heap.size (by rfl) (.tmp 38) (.tmp 46) 35 23 (.agg #[(.int .i64 0), (.int .i64 0)]) 16 rfl Try.underlying35 info23 rfl (by decide) (by omega) u4 x4_1 (⟨t1643, t1644⟩ : S23) [.int .i64 t1643, .int .i64 t1644] (fun k_ => some k_ ≠ (.slice (some ad1642) t1636.length co34 : Value).ownBlock) (fun _ => False) rfl rfl ?aP (fun _ hk => hk.elim) ?aF ?aO ?aB ?aS ?aL ?_
         (case aP => exact k23_mkM _ _ _ (⟨t1643, t1644⟩ : S23))
         (case aB => exact HB.out)
         (case aF => exact (fun k_ hk => Kd.fresh' (Kd.R_lt HO_3.out) k_ hk))
         (case aO => exact HO_4.out)
         (case aS => exact (below_size HB.out))
         (case aL => have := LMc32.out; omega)
         intro v1646 w37 ho hb hg hat
         rw [← Ny1645.out] at ho
         have HO1647 := A_ ho
         replace HO_3 := A_ (Kd.R_after (ok := (fun _ => True)) (by exact Kd.R_mono HO_3.out (fun _ hk => ⟨trivial, hk⟩)) hg hat)
         replace BK1620 := A_ (blk_grown BK1620.out hg (Kd.R_ne HO_4.out BK1620.out (by decide)))
         replace HB := A_ hb
         clear HO_4 ho hb hg hat
         refine hK.out _ _ ?_
         clear hK K
         refine nq 47 ?_
         refine pq 10 4 2047 HT_ ?_
         refine done_ (done_of HT_.out (by kernel_rfl)) ?_
         try go_wp2
         go_roundg k1
         case measure => have := HK1.out; omega
         case rel => exact ⟨(y1645), (wrap64 (x33_1 + 1)), rfl, H', ⟨by have := HK1.out; omega⟩, ⟨by exact Kd.R_mono HO_3.out (fun _ hk => hk.2)⟩, ⟨by exact HO1647.out⟩, ⟨by exact BK1620.out⟩, ⟨by repeat (first | (with_reducible first | exact HB.out | apply below_alloc | apply pw_below_drewN | apply below_drew1 | refine below_set ?_ GE1620.out) | exact HB.out)⟩⟩
        ·rw [if_neg c32] at H
         exact absurd H (by simp)
       ·rw [if_neg c30] at H
        exact absurd H (by simp)
      ·rw [if_neg c28] at H
       exact absurd H (by simp)
     ·rw [if_neg c27] at H
      exact absurd H (by simp)
    ·rw [if_neg c26] at H
     have c26b0 : decide (x33_1 < (l0_0.length : Int)) = false := decide_eq_false c26
     clear c26
     obtain rfl := Option.some.inj H
     go_wp2
     go_ret
     exact ⟨_, rfl, by exact Kd.R_mono HO_4.out (fun _ hk => trivial), by repeat (first | (with_reducible first | exact HB.out | apply below_alloc | apply pw_below_drewN | apply below_drew1 | refine below_set ?_ GE1620.out) | exact HB.out)⟩
end Go.Proofs.Ytjohcjfmlhihbaa.G

/- ### F101 -/
namespace Go.Proofs.Ytjohcjfmlhihbaa.G
open Go.RowKit Go.Proofs.YtjohcjfmlhihbaaW.PrintWords Go.Proofs.YtjohcjfmlhihbaaW.PrintLast Go.Proofs.YtjohcjfmlhihbaaW.PrintMore
attribute [local go_sem] cond_true cond_false fld23_0 fld23_1 fld45_0 fld45_1 fld109_0 fld109_1 fld94_0 fld94_1 max2_int min2_int max_two min_two max_three min_three max_four min_four   -- for this text's walks alone
set_option linter.unusedVariables false
set_option linter.unusedSimpArgs false
def shares_claims_piniles.l0 : Nat → List (S23) → List (S23) → List (S23) → Int → Int → Option ((List (S23)))
 | 0, _, _, _, _, _ => none
 | k + 1, x3, x4, x32, x33, x34 => if x34 < x33 then (if 0 ≤ x34 then (if x34 < (x32.length : Int) then (if x34 < (x3.length : Int) then ((shares_add.f k ((rd_T23 x32 x34).f0) ((rd_T23 x32 x34).f1) ((rd_T23 x3 x34).f0) ((rd_T23 x3 x34).f1)).bind fun bt1677 => (if x4.length < 8796093022208 then (shares_claims_piniles.l0 k x3 (x4 ++ [(⟨bt1677.1, bt1677.2⟩ : S23)]) x32 x33 (wrap64 (x34 + 1))) else (none))) else (none)) else (none)) else (none)) else (some x4)
def shares_claims_piniles.f (k : Nat) (l0_0 : List Int) (a0_1 : Int) : Option ((List (S23))) := (shares_total.f k l0_0).bind fun t1649 => (if (wrap64 (2 * a0_1)) ≤ t1649 then ((shares_claims_halves.f k l0_0 a0_1).bind fun t1650 => ((shares_whole.f a0_1).bind fun bt1653 => ((shares_equal.f k t1650 bt1653.1 bt1653.2).bind fun t1655 => (some t1655)))) else ((shares_claims_halves.f k l0_0 a0_1).bind fun t1658 => ((shares_whole.f a0_1).bind fun bt1661 => ((shares_total.f k l0_0).bind fun t1663 => ((shares_frac.f k t1663 2).bind fun bt1664 => ((shares_minus.f k bt1661.1 bt1661.2 bt1664.1 bt1664.2).bind fun bt1666 => ((shares_equal.f k t1658 bt1666.1 bt1666.2).bind fun t1668 => ((shares_claims_halves.f k l0_0 a0_1).bind fun t1671 => (shares_claims_piniles.l0 k t1668 ([] : List (S23)) t1671 (t1671.length : Int) 0)))))))))
theorem shares_claims_piniles.mono_l : ∀ k, (∀ y0 y1 y2 y3 y4, LeO (shares_claims_piniles.l0 k y0 y1 y2 y3 y4) (shares_claims_piniles.l0 (k + 1) y0 y1 y2 y3 y4))
 | 0 => fun _ _ _ _ _ r h => by simp [shares_claims_piniles.l0] at h
 | k + 1 => by
  have ih0 := shares_claims_piniles.mono_l k
  ·intro y0 y1 y2 y3 y4
   unfold shares_claims_piniles.l0
   repeat' first
   | (with_reducible exact ih0 _ _ _ _ _)
   | (with_reducible exact shares_add.mono _ _ _ _ _)
   | (with_reducible exact shares_claims_halves.mono _ _ _)
   | (with_reducible exact shares_equal.mono _ _ _ _)
   | (with_reducible exact shares_frac.mono _ _ _)
   | (with_reducible exact shares_minus.mono _ _ _ _ _)
   | (with_reducible exact shares_total.mono _ _)
   | (with_reducible exact LeO.refl _)
   | (with_reducible exact LeO.none _)
   | (with_reducible refine LeO.ite ?_ ?_)
   | (with_reducible refine LeO.bind ?_ (fun _ => ?_))
   | exact ih0 _ _ _ _ _
   | exact shares_add.mono _ _ _ _ _
   | exact shares_claims_halves.mono _ _ _
   | exact shares_equal.mono _ _ _ _
   | exact shares_frac.mono _ _ _
   | exact shares_minus.mono _ _ _ _ _
   | exact shares_total.mono _ _
   | exact LeO.none _
   | refine LeO.ite ?_ ?_
   | refine LeO.bind ?_ (fun _ => ?_)
theorem shares_claims_piniles.mono : ∀ a0 a1 k, LeO (shares_claims_piniles.f k a0 a1) (shares_claims_piniles.f (k + 1) a0 a1) := by
 intro a0 a1 k
 have ih0 := shares_claims_piniles.mono_l k
 unfold shares_claims_piniles.f
 repeat' first
   | (with_reducible exact ih0 _ _ _ _ _)
   | (with_reducible exact shares_add.mono _ _ _ _ _)
   | (with_reducible exact shares_claims_halves.mono _ _ _)
   | (with_reducible exact shares_equal.mono _ _ _ _)
   | (with_reducible exact shares_frac.mono _ _ _)
   | (with_reducible exact shares_minus.mono _ _ _ _ _)
   | (with_reducible exact shares_total.mono _ _)
   | (with_reducible exact LeO.refl _)
   | (with_reducible exact LeO.none _)
   | (with_reducible refine LeO.ite ?_ ?_)
   | (with_reducible refine LeO.bind ?_ (fun _ => ?_))
   | exact ih0 _ _ _ _ _
   | exact shares_add.mono _ _ _ _ _
   | exact shares_claims_halves.mono _ _ _
   | exact shares_equal.mono _ _ _ _
   | exact shares_frac.mono _ _ _
   | exact shares_minus.mono _ _ _ _ _
   | exact shares_total.mono _ _
   | exact LeO.none _
   | refine LeO.ite ?_ ?_
   | refine LeO.bind ?_ (fun _ => ?_)
def shares_claims_piniles.T3 : Bool × List (List Nat × List Nat) := (true, [([], []), ([0], [0]), ([], []), ([2], [2]), ([3, 1], [3]), ([], []), ([5], [5]), ([6, 4], [6]), ([7, 7], [7]), ([4, 8, 8], [4, 8]), ([1, 9, 9], [1, 9]), ([10, 10, 0, 1, 2, 3, 4, 5, 6, 7, 8, 9, 10], [10])])
def shares_claims_piniles.B3 : List Nat := [0, 1, 0, 4, 15, 0, 32, 127, 255, 511, 1023, 2047]
theorem shares_claims_piniles.tab3 : rtab .any (opsOf Try.f101 3) = shares_claims_piniles.T3 := by kernel_rfl
theorem shares_claims_piniles.bits3 : waitsOk shares_claims_piniles.T3.2 shares_claims_piniles.B3 = true := by kernel_rfl
def shares_claims_piniles.T8 : Bool × List (List Nat × List Nat) := (true, [([], []), ([], []), ([], []), ([], []), ([2, 3], [2, 3]), ([4], [4]), ([1, 5], [1, 5]), ([6], [6]), ([0, 7, 6], [0, 7]), ([8, 8, 0, 1, 2, 3, 4, 5, 6, 7, 8], [0, 8])])
def shares_claims_piniles.B8 : List Nat := [0, 0, 0, 0, 12, 28, 62, 126, 255, 511]
theorem shares_claims_piniles.tab8 : rtab .any (opsOf Try.f101 8) = shares_claims_piniles.T8 := by kernel_rfl
theorem shares_claims_piniles.bits8 : waitsOk shares_claims_piniles.T8.2 shares_claims_piniles.B8 = true := by kernel_rfl
set_option maxHeartbeats 8000000 in
set_option maxRecDepth 100000 in
theorem shares_claims_piniles.calls (k : Nat) (A0_0 : Option Addr) (c0_0 : Nat) (l0_0 : List Int) (a0_1 : Int) (r : List (S23)) (w : World) (hr0_0 : Kd.C (Kd.int .i64) w A0_0 l0_0.length l0_0) (hc0_0 : l0_0.length ≤ c0_0) (h : shares_claims_piniles.f k l0_0 a0_1 = some r) :
  Calls Try.prog 101 #[.agg #[.slice A0_0 l0_0.length c0_0, .int .i64 a0_1]] w fun e w' => ∃ v0_ : Value, e = .returned (v0_) ∧ Kd.R k23 23 w' w.heap.size (fun _ => True) v0_ r ∧ Below w.heap.size w w' := by
 have hu94 := Try.underlying94
 have hu23 := Try.underlying23
 have HR0_0 := A_ hr0_0
 have HC0_0 := A_ hc0_0
 clear hr0_0 hc0_0
 have HB := A_ (Below.refl w.heap.size w)
 have H : ((shares_total.f k l0_0).bind fun t1649 => (if (wrap64 (2 * a0_1)) ≤ t1649 then ((shares_claims_halves.f k l0_0 a0_1).bind fun t1650 => ((shares_whole.f a0_1).bind fun bt1653 => ((shares_equal.f k t1650 bt1653.1 bt1653.2).bind fun t1655 => (some t1655)))) else ((shares_claims_halves.f k l0_0 a0_1).bind fun t1658 => ((shares_whole.f a0_1).bind fun bt1661 => ((shares_total.f k l0_0).bind fun t1663 => ((shares_frac.f k t1663 2).bind fun bt1664 => ((shares_minus.f k bt1661.1 bt1661.2 bt1664.1 bt1664.2).bind fun bt1666 => ((shares_equal.f k t1658 bt1666.1 bt1666.2).bind fun t1668 => ((shares_claims_halves.f k l0_0 a0_1).bind fun t1671 => (shares_claims_piniles.l0 k t1668 ([] : List (S23)) t1671 (t1671.length : Int) 0)))))))))) = some r := h
 clear h
 replace H := Option.bind_eq_some_iff.mp H
 obtain ⟨t1649, A20, H⟩ := H
 replace H : (if (wrap64 (2 * a0_1)) ≤ t1649 then ((shares_claims_halves.f k l0_0 a0_1).bind fun t1650 => ((shares_whole.f a0_1).bind fun bt1653 => ((shares_equal.f k t1650 bt1653.1 bt1653.2).bind fun t1655 => (some t1655)))) else ((shares_claims_halves.f k l0_0 a0_1).bind fun t1658 => ((shares_whole.f a0_1).bind fun bt1661 => ((shares_total.f k l0_0).bind fun t1663 => ((shares_frac.f k t1663 2).bind fun bt1664 => ((shares_minus.f k bt1661.1 bt1661.2 bt1664.1 bt1664.2).bind fun bt1666 => ((shares_equal.f k t1658 bt1666.1 bt1666.2).bind fun t1668 => ((shares_claims_halves.f k l0_0 a0_1).bind fun t1671 => (shares_claims_piniles.l0 k t1668 ([] : List (S23)) t1671 (t1671.length : Int) 0))))))))) = some r := H
 have A2 := A_ A20
 clear A20
 by_cases c3 : (wrap64 (2 * a0_1)) ≤ t1649
 ·rw [if_pos c3] at H
  have c3b0 : decide ((wrap64 (2 * a0_1)) ≤ t1649) = true := decide_eq_true c3
  clear c3
  replace H := Option.bind_eq_some_iff.mp H
  obtain ⟨t1650, A40, H⟩ := H
  replace H : ((shares_whole.f a0_1).bind fun bt1653 => ((shares_equal.f k t1650 bt1653.1 bt1653.2).bind fun t1655 => (some t1655))) = some r := H
  have A4 := A_ A40
  clear A40
  replace H := Option.bind_eq_some_iff.mp H
  obtain ⟨⟨t1653, t1654⟩, A50, H⟩ := H
  dsimp only at H
  have A5 := A_ A50
  clear A50
  replace H := Option.bind_eq_some_iff.mp H
  obtain ⟨t1655, A60, H⟩ := H
  replace H : (some t1655) = some r := H
  have A6 := A_ A60
  clear A60
  obtain rfl := Option.some.inj H
  go_enter Try.func101, Try.ntmps101
  try go_wp2_with (first | ((with_reducible refine gate_dst (N := 1) rfl ?_); refine box_event ?hg (N := 1) ?hd (cs := #[.slice A0_0 l0_0.length c0_0, .int .i64 a0_1]) (t := 94) ?hr ?_; (case hd => rfl); (case hg => rfl); (case hr => first | (go_simp; done) | (go_simp; rfl)); intro gb1648 hg w7 hbox hb; have BK1648 := A_ hbox; have GW1648 := gw hg HB; have GE1648 := GW1648; replace HB := bB HB hb; clear hb hbox hg))
  replace BK1648 := A_ (blk_drew BK1648.out)
  replace HB := A_ (below_drew1 HB.out)
  refine start_ (n := 7) (S := fun w' => w'.cell? ⟨gb1648, 0, none⟩ = some (.slice A0_0 l0_0.length c0_0) ∧ w'.cell? ⟨gb1648, 1, none⟩ = some (.int .i64 a0_1)) (ds := []) (ba 7 0) (by kernel_rfl) rfl rfl ⟨cz BK1648 0, cz BK1648 1⟩ (fun hHeld => ?_)
  generalize w7.drew = w8 at BK1648 HB hHeld ⊢
  refine pr 0 7 1 ?_
  refine pr 3 10 9 ?_
  refine tr 1 8 11 hHeld ?_
  refine pr 2 9 15 ?_
  refine tr 4 11 31 hHeld ?_
  refine os 5 12 63 (fun K hK => ?_)
  refine gq Try.func93 #[.slice A0_0 l0_0.length c0_0] ?_
  with_reducible refine (shares_total.calls k _ _ l0_0 t1649 _ ?side1 ?side2 A2.out).mono ?_
  (case side1 => exact cB HR0_0 HB)
  (case side2 => exact HC0_0.out)
  rintro e w' ⟨rfl, ⟨nd, rfl⟩⟩
  refine ⟨_, rfl, ?_⟩
  refine hK.out _ _ ⟨cz BK1648 0, cz BK1648 1⟩ (fun hHeld => ?_)
  clear hK K
  refine nq 12 ?_
  refine pr 6 13 127 ?_
  refine done_ (by kernel_rfl) ?_
  try go_wp2
  (try (rw [drewN_self w8]; generalize hq_ : World.drewN w8 _ = w8; have n0_ : Aside0 (w8.heap[gb1648]? = some (.cells #[.slice A0_0 l0_0.length c0_0, .int .i64 a0_1] 94 (0, 0))) := ⟨by rw [← hq_]; exact BK1648.out⟩; have n1_ : Aside0 (Below w.heap.size w w8) := ⟨by rw [← hq_]; exact (bl HB)⟩; clear BK1648 HB hq_; have BK1648 := n0_; have HB := n1_; clear n0_ n1_))
  replace BK1648 := A_ (blk_drew BK1648.out)
  replace HB := A_ (below_drew1 HB.out)
  refine start_ (n := 7) (S := fun w' => w'.cell? ⟨gb1648, 0, none⟩ = some (.slice A0_0 l0_0.length c0_0) ∧ w'.cell? ⟨gb1648, 1, none⟩ = some (.int .i64 a0_1)) (ds := []) (ba 7 0) (by kernel_rfl) rfl rfl ⟨cz BK1648 0, cz BK1648 1⟩ (fun hHeld => ?_)
  generalize w8.drew = w9 at BK1648 HB hHeld ⊢
  refine pr 2 16 4 ?_
  refine tr 0 14 5 hHeld ?_
  refine tr 3 17 13 hHeld ?_
  refine os 1 15 15 (fun K hK => ?_)
  refine gq Try.func123 #[.agg #[.slice A0_0 l0_0.length c0_0, .int .i64 a0_1]] ?_
  with_reducible refine (shares_claims_halves.calls k _ _ l0_0 a0_1 t1650 _ ?side1 ?side2 A4.out).mono ?_
  (case side1 => exact cB HR0_0 HB)
  (case side2 => exact HC0_0.out)
  rintro e w10 ⟨v1651, rfl, ho0, hb⟩
  refine ⟨_, rfl, ?_⟩
  have HO1652 := A_ (Kd.R_lower ho0 (below_size (bl HB)))
  replace BK1648 := kB BK1648 hb
  replace HB := bB HB hb
  (try clear hb)
  (try clear hb2)
  (try clear hk)
  (try clear hi)
  (try clear ho0)
  refine hK.out _ _ ⟨cz BK1648 0, cz BK1648 1⟩ (fun hHeld => ?_)
  clear hK K
  refine nq 15 ?_
  refine os 4 18 31 (fun K hK => ?_)
  refine gq Try.func64 #[.int .i64 a0_1] ?_
  with_reducible refine (shares_whole.calls a0_1 t1653 t1654 _ A5.out).mono ?_
  rintro e w11 ⟨rfl, hb⟩
  refine ⟨_, rfl, ?_⟩
  replace HO1652 := rB HO1652 hb
  replace BK1648 := kB BK1648 hb
  replace HB := bB HB hb
  (try clear hb)
  (try clear hb2)
  (try clear hk)
  (try clear hi)
  obtain ⟨Ao12, co12, eo12⟩ := Kd.R_slice HO1652.out
  (first | subst eo12 | (injection eo12 with f1_ f2_ f3_; have f4_ := f1_.symm; have f5_ := f3_.symm; clear f1_ f2_ f3_; subst f4_; subst f5_))
  refine hK.out _ _ ⟨cz BK1648 0, cz BK1648 1⟩ (fun hHeld => ?_)
  clear hK K
  refine nq 18 ?_
  refine os 5 19 63 (fun K hK => ?_)
  refine gq Try.func122 #[.slice Ao12 t1650.length co12, .agg #[.int .i64 t1653, .int .i64 t1654]] ?_
  with_reducible refine (shares_equal.calls k _ _ t1650 t1653 t1654 t1655 _ ?side1 ?side2 A6.out).mono ?_
  (case side1 => repeat (first | exact (Kd.R_reads' HO1652.out).2.2 | (with_reducible refine Kd.C_alloc ?_ _) | (with_reducible refine Kd.C_drewN ?_ _) | (with_reducible refine Kd.C_drew ?_)))
  (case side2 => exact (Kd.R_reads' HO1652.out).2.1)
  rintro e w13 ⟨v1656, rfl, ho0, hb⟩
  refine ⟨_, rfl, ?_⟩
  have HO1657 := A_ (Kd.R_lower (Kd.R_new' ho0 (Kd.R_lt HO1652.out)) (below_size HB.out))
  replace HO1652 := A_ (Kd.R_elder' HO1652.out (Kd.R_base ho0) hb)
  replace BK1648 := kB BK1648 hb
  replace HB := bB HB hb
  (try clear hb)
  (try clear hb2)
  (try clear hk)
  (try clear hi)
  (try clear ho0)
  refine hK.out _ _ ⟨cz BK1648 0, cz BK1648 1⟩ (fun hHeld => ?_)
  clear hK K
  refine nq 19 ?_
  refine pr 6 2 127 ?_
  refine done_ (by kernel_rfl) ?_
  try go_wp2
  go_ret
  exact ⟨_, rfl, by exact Kd.R_mono HO1657.out (fun _ hk => trivial), by repeat (first | (with_reducible first | exact HB.out | apply below_alloc | apply pw_below_drewN | apply below_drew1 | refine below_set ?_ GE1648.out) | exact HB.out)⟩
 ·rw [if_neg c3] at H
  have c3b0 : decide ((wrap64 (2 * a0_1)) ≤ t1649) = false := decide_eq_false c3
  clear c3
  replace H := Option.bind_eq_some_iff.mp H
  obtain ⟨t1658, A140, H⟩ := H
  replace H : ((shares_whole.f a0_1).bind fun bt1661 => ((shares_total.f k l0_0).bind fun t1663 => ((shares_frac.f k t1663 2).bind fun bt1664 => ((shares_minus.f k bt1661.1 bt1661.2 bt1664.1 bt1664.2).bind fun bt1666 => ((shares_equal.f k t1658 bt1666.1 bt1666.2).bind fun t1668 => ((shares_claims_halves.f k l0_0 a0_1).bind fun t1671 => (shares_claims_piniles.l0 k t1668 ([] : List (S23)) t1671 (t1671.length : Int) 0))))))) = some r := H
  have A14 := A_ A140
  clear A140
  replace H := Option.bind_eq_some_iff.mp H
  obtain ⟨⟨t1661, t1662⟩, A150, H⟩ := H
  dsimp only at H
  have A15 := A_ A150
  clear A150
  replace H := Option.bind_eq_some_iff.mp H
  obtain ⟨t1663, A160, H⟩ := H
  replace H : ((shares_frac.f k t1663 2).bind fun bt1664 => ((shares_minus.f k t1661 t1662 bt1664.1 bt1664.2).bind fun bt1666 => ((shares_equal.f k t1658 bt1666.1 bt1666.2).bind fun t1668 => ((shares_claims_halves.f k l0_0 a0_1).bind fun t1671 => (shares_claims_piniles.l0 k t1668 ([] : List (S23)) t1671 (t1671.length : Int) 0))))) = some r := H
  have A16 := A_ A160
  clear A160
  replace H := Option.bind_eq_some_iff.mp H
  obtain ⟨⟨t1664, t1665⟩, A170, H⟩ := H
  dsimp only at H
  have A17 := A_ A170
  clear A170
  replace H := Option.bind_eq_some_iff.mp H
  obtain ⟨⟨t1666, t1667⟩, A180, H⟩ := H
  dsimp only at H
  have A18 := A_ A180
  clear A180
  replace H := Option.bind_eq_some_iff.mp H
  obtain ⟨t1668, A190, H⟩ := H
  replace H : ((shares_claims_halves.f k l0_0 a0_1).bind fun t1671 => (shares_claims_piniles.l0 k t1668 ([] : List (S23)) t1671 (t1671.length : Int) 0)) = some r := H
  have A19 := A_ A190
  clear A190
  replace H := Option.bind_eq_some_iff.mp H
  obtain ⟨t1671, A200, H⟩ := H
  replace H : (shares_claims_piniles.l0 k t1668 ([] : List (S23)) t1671 (t1671.length : Int) 0) = some r := H
  have A20 := A_ A200
  clear A200
  have H' := A_ H
  clear H
  go_enter Try.func101, Try.ntmps101
  try go_wp2_with (first | ((with_reducible refine gate_dst (N := 1) rfl ?_); refine box_event ?hg (N := 1) ?hd (cs := #[.slice A0_0 l0_0.length c0_0, .int .i64 a0_1]) (t := 94) ?hr ?_; (case hd => rfl); (case hg => rfl); (case hr => first | (go_simp; done) | (go_simp; rfl)); intro gb1648 hg w21 hbox hb; have BK1648 := A_ hbox; have GW1648 := gw hg HB; have GE1648 := GW1648; replace HB := bB HB hb; clear hb hbox hg))
  replace BK1648 := A_ (blk_drew BK1648.out)
  replace HB := A_ (below_drew1 HB.out)
  refine start_ (n := 7) (S := fun w' => w'.cell? ⟨gb1648, 0, none⟩ = some (.slice A0_0 l0_0.length c0_0) ∧ w'.cell? ⟨gb1648, 1, none⟩ = some (.int .i64 a0_1)) (ds := []) (ba 7 0) (by kernel_rfl) rfl rfl ⟨cz BK1648 0, cz BK1648 1⟩ (fun hHeld => ?_)
  generalize w21.drew = w22 at BK1648 HB hHeld ⊢
  refine pr 0 7 1 ?_
  refine pr 3 10 9 ?_
  refine tr 1 8 11 hHeld ?_
  refine pr 2 9 15 ?_
  refine tr 4 11 31 hHeld ?_
  refine os 5 12 63 (fun K hK => ?_)
  refine gq Try.func93 #[.slice A0_0 l0_0.length c0_0] ?_
  with_reducible refine (shares_total.calls k _ _ l0_0 t1649 _ ?side1 ?side2 A2.out).mono ?_
  (case side1 => exact cB HR0_0 HB)
  (case side2 => exact HC0_0.out)
  rintro e w' ⟨rfl, ⟨nd, rfl⟩⟩
  refine ⟨_, rfl, ?_⟩
  refine hK.out _ _ ⟨cz BK1648 0, cz BK1648 1⟩ (fun hHeld => ?_)
  clear hK K
  refine nq 12 ?_
  refine pr 6 13 127 ?_
  refine done_ (by kernel_rfl) ?_
  try go_wp2
  (try (rw [drewN_self w22]; generalize hq_ : World.drewN w22 _ = w22; have n0_ : Aside0 (w22.heap[gb1648]? = some (.cells #[.slice A0_0 l0_0.length c0_0, .int .i64 a0_1] 94 (0, 0))) := ⟨by rw [← hq_]; exact BK1648.out⟩; have n1_ : Aside0 (Below w.heap.size w w22) := ⟨by rw [← hq_]; exact (bl HB)⟩; clear BK1648 HB hq_; have BK1648 := n0_; have HB := n1_; clear n0_ n1_))
  replace BK1648 := A_ (blk_drew BK1648.out)
  replace HB := A_ (below_drew1 HB.out)
  refine start_ (n := 12) (S := fun w' => w'.cell? ⟨gb1648, 0, none⟩ = some (.slice A0_0 l0_0.length c0_0) ∧ w'.cell? ⟨gb1648, 1, none⟩ = some (.int .i64 a0_1)) (ds := []) (ba 12 0) (by kernel_rfl) rfl rfl ⟨cz BK1648 0, cz BK1648 1⟩ (fun hHeld => ?_); refine with_tabW shares_claims_piniles.tab3 shares_claims_piniles.bits3 (fun HT_ HW_ => ?_)
  generalize w22.drew = w23 at BK1648 HB hHeld ⊢
  refine pq 2 22 4 HT_ ?_
  refine pq 5 25 36 HT_ ?_
  refine tq 0 20 37 HT_ HW_ hHeld ?_
  refine tq 3 23 45 HT_ HW_ hHeld ?_
  refine tq 6 26 109 HT_ HW_ hHeld ?_
  refine oq 1 21 111 HT_ (fun K hK => ?_)
  refine gq Try.func123 #[.agg #[.slice A0_0 l0_0.length c0_0, .int .i64 a0_1]] ?_
  with_reducible refine (shares_claims_halves.calls k _ _ l0_0 a0_1 t1658 _ ?side1 ?side2 A14.out).mono ?_
  (case side1 => exact cB HR0_0 HB)
  (case side2 => exact HC0_0.out)
  rintro e w24 ⟨v1659, rfl, ho0, hb⟩
  refine ⟨_, rfl, ?_⟩
  have HO1660 := A_ (Kd.R_lower ho0 (below_size (bl HB)))
  replace BK1648 := kB BK1648 hb
  replace HB := bB HB hb
  (try clear hb)
  (try clear hb2)
  (try clear hk)
  (try clear hi)
  (try clear ho0)
  refine hK.out _ _ ⟨cz BK1648 0, cz BK1648 1⟩ (fun hHeld => ?_)
  clear hK K
  refine nq 21 ?_
  refine oq 4 24 127 HT_ (fun K hK => ?_)
  refine gq Try.func64 #[.int .i64 a0_1] ?_
  with_reducible refine (shares_whole.calls a0_1 t1661 t1662 _ A15.out).mono ?_
  rintro e w25 ⟨rfl, hb⟩
  refine ⟨_, rfl, ?_⟩
  replace HO1660 := rB HO1660 hb
  replace BK1648 := kB BK1648 hb
  replace HB := bB HB hb
  (try clear hb)
  (try clear hb2)
  (try clear hk)
  (try clear hi)
  refine hK.out _ _ ⟨cz BK1648 0, cz BK1648 1⟩ (fun hHeld => ?_)
  clear hK K
  refine nq 24 ?_
  refine oq 7 27 255 HT_ (fun K hK => ?_)
  refine gq Try.func93 #[.slice A0_0 l0_0.length c0_0] ?_
  with_reducible refine (shares_total.calls k _ _ l0_0 t1663 _ ?side1 ?side2 A16.out).mono ?_
  (case side1 => exact cB HR0_0 HB)
  (case side2 => exact HC0_0.out)
  rintro e w' ⟨rfl, ⟨nd, rfl⟩⟩
  refine ⟨_, rfl, ?_⟩
  refine hK.out _ _ ⟨cz BK1648 0, cz BK1648 1⟩ (fun hHeld => ?_)
  clear hK K
  refine nq 27 ?_
  refine oq 8 28 511 HT_ (fun K hK => ?_)
  refine gq Try.func117 #[.int .i64 t1663, .int .i64 2] ?_
  with_reducible refine (shares_frac.calls k t1663 2 t1664 t1665 _ A17.out).mono ?_
  rintro e w26 ⟨rfl, hb⟩
  refine ⟨_, rfl, ?_⟩
  replace HO1660 := rB HO1660 hb
  replace BK1648 := kB BK1648 hb
  replace HB := bB HB hb
  (try clear hb)
  (try clear hb2)
  (try clear hk)
  (try clear hi)
  refine hK.out _ _ ⟨cz BK1648 0, cz BK1648 1⟩ (fun hHeld => ?_)
  clear hK K
  refine nq 28 ?_
  refine oq 9 29 1023 HT_ (fun K hK => ?_)
  refine gq Try.func95 #[.agg #[.int .i64 t1661, .int .i64 t1662], .agg #[.int .i64 t1664, .int .i64 t1665]] ?_
  with_reducible refine (shares_minus.calls k t1661 t1662 t1664 t1665 t1666 t1667 _ A18.out).mono ?_
  rintro e w27 ⟨rfl, hb⟩
  refine ⟨_, rfl, ?_⟩
  replace HO1660 := rB HO1660 hb
  replace BK1648 := kB BK1648 hb
  replace HB := bB HB hb
  (try clear hb)
  (try clear hb2)
  (try clear hk)
  (try clear hi)
  obtain ⟨Ao28, co28, eo28⟩ := Kd.R_slice HO1660.out
  (first | subst eo28 | (injection eo28 with f1_ f2_ f3_; have f4_ := f1_.symm; have f5_ := f3_.symm; clear f1_ f2_ f3_; subst f4_; subst f5_))
  refine hK.out _ _ ⟨cz BK1648 0, cz BK1648 1⟩ (fun hHeld => ?_)
  clear hK K
  refine nq 29 ?_
  refine oq 10 30 2047 HT_ (fun K hK => ?_)
  refine gq Try.func122 #[.slice Ao28 t1658.length co28, .agg #[.int .i64 t1666, .int .i64 t1667]] ?_
  with_reducible refine (shares_equal.calls k _ _ t1658 t1666 t1667 t1668 _ ?side1 ?side2 A19.out).mono ?_
  (case side1 => repeat (first | exact (Kd.R_reads' HO1660.out).2.2 | (with_reducible refine Kd.C_alloc ?_ _) | (with_reducible refine Kd.C_drewN ?_ _) | (with_reducible refine Kd.C_drew ?_)))
  (case side2 => exact (Kd.R_reads' HO1660.out).2.1)
  rintro e w29 ⟨v1669, rfl, ho0, hb⟩
  refine ⟨_, rfl, ?_⟩
  have HO1670 := A_ (Kd.R_lower (Kd.R_new' ho0 (Kd.R_lt HO1660.out)) (below_size HB.out))
  replace HO1660 := A_ (Kd.R_elder' HO1660.out (Kd.R_base ho0) hb)
  replace BK1648 := kB BK1648 hb
  replace HB := bB HB hb
  (try clear hb)
  (try clear hb2)
  (try clear hk)
  (try clear hi)
  (try clear ho0)
  refine hK.out _ _ ⟨cz BK1648 0, cz BK1648 1⟩ (fun hHeld => ?_)
  clear hK K
  refine nq 30 ?_
  refine pq 11 3 4095 HT_ ?_
  refine done_ (done_of HT_.out (by kernel_rfl)) ?_
  have hcz30_0 : w29.cell? ⟨gb1648, 0, none⟩ = some (.slice A0_0 l0_0.length c0_0) := cz BK1648 0
  have hcz30_1 : w29.cell? ⟨gb1648, 1, none⟩ = some (.int .i64 a0_1) := cz BK1648 1
  have hfz30_0 := blk_frozen BK1648.out 0
  have hfz30_1 := blk_frozen BK1648.out 1
  try go_wp2_with (first | ((with_reducible refine gate_callee (f := 123) rfl ?_); refine goesL_ (some 32) rfl rfl Try.func123 (by kernel_rfl) rfl #[.agg #[.slice A0_0 l0_0.length c0_0, .int .i64 a0_1]] rfl (by simp only [mt, mc, mz]; rfl) ?_; (with_reducible refine (shares_claims_halves.calls k _ _ l0_0 a0_1 t1671 _ ?side1 ?side2 A20.out).mono ?_); (case side1 => exact cB HR0_0 HB); (case side2 => exact HC0_0.out); rintro e w31 ⟨v1672, rfl, ho0, hb⟩; refine ⟨_, rfl, ?_⟩; have HO1673 := A_ (Kd.R_lower (Kd.R_new' (Kd.R_new' ho0 (Kd.R_lt HO1660.out)) (Kd.R_lt HO1670.out)) (below_size HB.out)); replace HO1660 := A_ (Kd.R_elder' HO1660.out (Kd.R_base ho0) hb); replace HO1670 := A_ (Kd.R_elder' HO1670.out (Kd.R_base ho0) hb); replace BK1648 := kB BK1648 hb; replace HB := bB HB hb; (try clear hb); (try clear hb2); (try clear hk); (try clear hi); (try clear ho0); obtain ⟨Ao32, co32, eo32⟩ := Kd.R_slice HO1673.out; subst eo32))
  go_loopg [4, 34] k (fun kq v4 v34 w' => ∃ (x4_1 : List (S23)) (x34_1 : Int), v34 = .int .i64 x34_1 ∧ Aside0 (shares_claims_piniles.l0 kq t1668 x4_1 t1671 (t1671.length : Int) x34_1 = some r) ∧ Aside0 (kq ≤ k) ∧ Aside0 (Kd.R k23 23 w' w.heap.size (fun k_ => some k_ ≠ (v4 : Value).ownBlock ∧ some k_ ≠ ((.slice Ao32 t1671.length co32) : Value).ownBlock) v1669 t1668) ∧ Aside0 (Kd.R k23 23 w' w.heap.size (fun k_ => some k_ ≠ (v1669 : Value).ownBlock ∧ some k_ ≠ ((.slice Ao32 t1671.length co32) : Value).ownBlock) v4 x4_1) ∧ Aside0 (Kd.R k23 23 w' w.heap.size (fun k_ => some k_ ≠ (v1669 : Value).ownBlock ∧ some k_ ≠ (v4 : Value).ownBlock) (.slice Ao32 t1671.length co32) t1671) ∧ Aside0 (w'.heap[gb1648]? = some (.cells #[(.slice A0_0 l0_0.length c0_0), .int .i64 a0_1] 94 (0, 0))) ∧ Aside0 (Below w.heap.size w w'))
  case atStart => exact ⟨(([] : List (S23))), (0), rfl, H', ⟨Nat.le_refl _⟩, ⟨by exact Kd.R_mono HO1670.out (fun _ hk => ⟨(by simp [Value.ownBlock]), hk.2⟩)⟩, ⟨by first | exact Kd.R_nil _ _ _ _ _ | exact Kd.N_nil _ _ _ _ _ | exact Kd.V_nil _ _ _ _ _ | exact Kd.Q_nil _ _ _ _ _ | exact Kd.S_nil _ _ _ _ _⟩, ⟨by exact Kd.R_mono HO1673.out (fun _ hk => ⟨hk.2, (by simp [Value.ownBlock])⟩)⟩, ⟨by exact BK1648.out⟩, ⟨by repeat (first | (with_reducible first | exact HB.out | apply below_alloc | apply pw_below_drewN | apply below_drew1 | refine below_set ?_ GE1648.out) | exact HB.out)⟩⟩
  case round =>
   clear H'
   try clear c1
   try clear p2
   try clear c3
   try clear c3b0
   try clear c6
   try clear p6
   try clear c9
   try clear c10
   try clear c11
   try clear c12
   try clear hcz30_0
   try clear hcz30_1
   try clear hfz30_0
   try clear hfz30_1
   obtain ⟨x4_1, x34_1, rfl, HA, HK1, HO_3, HO_4, HO_32, BK1648, HB⟩ := hrel
   cases gk with
   | zero => exact absurd HA.out (by simp [shares_claims_piniles.l0])
   | succ k1 =>
    have H := HA.out
    clear HA
    simp only [shares_claims_piniles.l0] at H
    by_cases c33 : x34_1 < (t1671.length : Int)
    ·rw [if_pos c33] at H
     have c33b0 : decide (x34_1 < (t1671.length : Int)) = true := decide_eq_true c33
     clear c33
     by_cases c34 : 0 ≤ x34_1
     ·rw [if_pos c34] at H
      have c34b0 : decide (0 ≤ x34_1) = true := decide_eq_true c34
      clear c34
      by_cases c35 : x34_1 < (t1671.length : Int)
      ·rw [if_pos c35] at H
       have c35b0 : decide (x34_1 < (t1671.length : Int)) = true := decide_eq_true c35
       clear c35
       by_cases c36 : x34_1 < (t1668.length : Int)
       ·rw [if_pos c36] at H
        have c36b0 : decide (x34_1 < (t1668.length : Int)) = true := decide_eq_true c36
        clear c36
        replace H := Option.bind_eq_some_iff.mp H
        obtain ⟨⟨t1677, t1678⟩, A370, H⟩ := H
        dsimp only at H
        have A37 := A_ A370
        clear A370
        by_cases c38 : x4_1.length < 8796093022208
        ·rw [if_pos c38] at H
         have LMc38 := A_ c38
         clear c38
         obtain ⟨y1679, hy1679⟩ : ∃ y_ : List (S23), y_ = (x4_1 ++ [(⟨t1677, t1678⟩ : S23)]) := ⟨_, rfl⟩
         replace H : (shares_claims_piniles.l0 k1 t1668 y1679 t1671 (t1671.length : Int) (wrap64 (x34_1 + 1))) = some r := by rw [hy1679]; exact H
         have Ny1679 := A_ hy1679
         clear hy1679
         have H' := A_ H
         clear H
         have p1674 : 0 ≤ (x34_1 : Int) := of_decide_eq_true (by assumption)
         have q1674 : x34_1 < (t1671.length : Int) := of_decide_eq_true (by assumption)
         obtain ⟨ad1674, e1674, hx1674_0, hx1674_1⟩ := at_T23 (Kd.R_reads' HO_32.out).2.2 x34_1 p1674 q1674
         cases e1674
         replace p1674 := eq_true p1674
         replace q1674 := eq_true q1674
         try go_wp2_with (first | ((with_reducible refine gate_dst (N := 6) rfl ?_); refine box_event ?hg (N := 6) ?hd (cs := #[.int .i64 0, .int .i64 0]) (t := 23) ?hr ?_; (case hd => rfl); (case hg => rfl); (case hr => first | (go_simp; done) | (go_simp; rfl)); intro gb1675 hg w39 hbox hb; have BK1675 := A_ hbox; have GW1675 := gw hg HB; have GE1675 := GW1675; have NB1648_1675 := nl hg BK1648; have NB1675_1648 := ng hg BK1648; replace HO_3 := A_ (Kd.R_below (Kd.R_elderB HO_3.out gb1675 (Nat.le_of_eq hg.symm)) hb); replace HO_4 := A_ (Kd.R_below (Kd.R_elderB HO_4.out gb1675 (Nat.le_of_eq hg.symm)) hb); replace HO_32 := A_ (Kd.R_below (Kd.R_elderB HO_32.out gb1675 (Nat.le_of_eq hg.symm)) hb); replace BK1648 := kB BK1648 hb; replace HB := bB HB hb; clear hb hbox hg; have hnb40 := NB1675_1648.out; have hnc40 := NB1648_1675.out; have hcz41_0 : w39.cell? ⟨gb1675, 0, none⟩ = some (.int .i64 0) := cz BK1675 0; have hcz41_1 : w39.cell? ⟨gb1675, 1, none⟩ = some (.int .i64 0) := cz BK1675 1; have hfz41_0 := blk_frozen BK1675.out 0; have hfz41_1 := blk_frozen BK1675.out 1))
         have n0_ : Aside0 (Kd.R k23 23 ((w39.setCell ⟨gb1675, 0, none⟩ (.int .i64 ((rd_T23 t1671 x34_1).f0))).setCell ⟨gb1675, 1, none⟩ (.int .i64 ((rd_T23 t1671 x34_1).f1))) w.heap.size (fun k_ => some k_ ≠ (u4 : Value).ownBlock ∧ some k_ ≠ (.slice (some ad1674) t1671.length co32 : Value).ownBlock ∧ k_ ≠ gb1675) v1669 t1668) := ⟨by exact Kd.R_mono (Kd.R_far (p := ⟨gb1675, 1, none⟩) (Kd.R_far (p := ⟨gb1675, 0, none⟩) (Kd.R_mono HO_3.out (fun k_ hk => (⟨hk, hk.2⟩ : _ ∧ k_ ≠ gb1675))) (fun _ hk => hk.2) (.int .i64 ((rd_T23 t1671 x34_1).f0))) (fun _ hk => hk.2) (.int .i64 ((rd_T23 t1671 x34_1).f1))) (fun _ hk => ⟨hk.1.1.1, ⟨hk.1.1.2, hk.1.2⟩⟩)⟩
         have n1_ : Aside0 (Kd.R k23 23 ((w39.setCell ⟨gb1675, 0, none⟩ (.int .i64 ((rd_T23 t1671 x34_1).f0))).setCell ⟨gb1675, 1, none⟩ (.int .i64 ((rd_T23 t1671 x34_1).f1))) w.heap.size (fun k_ => some k_ ≠ (v1669 : Value).ownBlock ∧ some k_ ≠ (.slice (some ad1674) t1671.length co32 : Value).ownBlock ∧ k_ ≠ gb1675) u4 x4_1) := ⟨by exact Kd.R_mono (Kd.R_far (p := ⟨gb1675, 1, none⟩) (Kd.R_far (p := ⟨gb1675, 0, none⟩) (Kd.R_mono HO_4.out (fun k_ hk => (⟨hk, hk.2⟩ : _ ∧ k_ ≠ gb1675))) (fun _ hk => hk.2) (.int .i64 ((rd_T23 t1671 x34_1).f0))) (fun _ hk => hk.2) (.int .i64 ((rd_T23 t1671 x34_1).f1))) (fun _ hk => ⟨hk.1.1.1, ⟨hk.1.1.2, hk.1.2⟩⟩)⟩
         have n2_ : Aside0 (Kd.R k23 23 ((w39.setCell ⟨gb1675, 0, none⟩ (.int .i64 ((rd_T23 t1671 x34_1).f0))).setCell ⟨gb1675, 1, none⟩ (.int .i64 ((rd_T23 t1671 x34_1).f1))) w.heap.size (fun k_ => some k_ ≠ (v1669 : Value).ownBlock ∧ some k_ ≠ (u4 : Value).ownBlock ∧ k_ ≠ gb1675) (.slice (some ad1674) t1671.length co32) t1671) := ⟨by exact Kd.R_mono (Kd.R_far (p := ⟨gb1675, 1, none⟩) (Kd.R_far (p := ⟨gb1675, 0, none⟩) (Kd.R_mono HO_32.out (fun k_ hk => (⟨hk, hk.2⟩ : _ ∧ k_ ≠ gb1675))) (fun _ hk => hk.2) (.int .i64 ((rd_T23 t1671 x34_1).f0))) (fun _ hk => hk.2) (.int .i64 ((rd_T23 t1671 x34_1).f1))) (fun _ hk => ⟨hk.1.1.1, ⟨hk.1.1.2, hk.1.2⟩⟩)⟩
         have n3_ : Aside0 (((w39.setCell ⟨gb1675, 0, none⟩ (.int .i64 ((rd_T23 t1671 x34_1).f0))).setCell ⟨gb1675, 1, none⟩ (.int .i64 ((rd_T23 t1671 x34_1).f1))).heap[gb1648]? = some (.cells #[.slice A0_0 l0_0.length c0_0, .int .i64 a0_1] 94 (0, 0))) := ⟨by refine blk_far ?_ NB1648_1675.out _; refine blk_far ?_ NB1648_1675.out _; exact BK1648.out⟩
         have n4_ : Aside0 (((w39.setCell ⟨gb1675, 0, none⟩ (.int .i64 ((rd_T23 t1671 x34_1).f0))).setCell ⟨gb1675, 1, none⟩ (.int .i64 ((rd_T23 t1671 x34_1).f1))).heap[gb1675]? = some (.cells #[.int .i64 ((rd_T23 t1671 x34_1).f0), .int .i64 ((rd_T23 t1671 x34_1).f1)] 23 (0, 0))) := ⟨by refine blk_put (cs := #[.int .i64 ((rd_T23 t1671 x34_1).f0), .int .i64 0]) ?_ 1 _ rfl; refine blk_put (cs := #[.int .i64 0, .int .i64 0]) ?_ 0 _ rfl; exact BK1675.out⟩
         have n5_ : Aside0 (Below w.heap.size w ((w39.setCell ⟨gb1675, 0, none⟩ (.int .i64 ((rd_T23 t1671 x34_1).f0))).setCell ⟨gb1675, 1, none⟩ (.int .i64 ((rd_T23 t1671 x34_1).f1)))) := ⟨by repeat (first | (with_reducible first | exact HB.out | apply below_alloc | apply pw_below_drewN | apply below_drew1 | refine below_set ?_ GE1648.out | refine below_set ?_ GE1675.out) | exact HB.out)⟩
         (try clear HO_3)
         (try clear HO_4)
         (try clear HO_32)
         (try clear BK1648)
         (try clear BK1675)
         (try clear HB)
         generalize ((w39.setCell ⟨gb1675, 0, none⟩ (.int .i64 ((rd_T23 t1671 x34_1).f0))).setCell ⟨gb1675, 1, none⟩ (.int .i64 ((rd_T23 t1671 x34_1).f1))) = w42 at n0_ n1_ n2_ n3_ n4_ n5_ ⊢
         have HO_3 := n0_
         have HO_4 := n1_
         have HO_32 := n2_
         have BK1648 := n3_
         have BK1675 := n4_
         have HB := n5_
         clear n0_ n1_ n2_ n3_ n4_ n5_
         replace HO_3 := A_ (Kd.R_drew HO_3.out)
         replace HO_4 := A_ (Kd.R_drew HO_4.out)
         replace HO_32 := A_ (Kd.R_drew HO_32.out)
         replace BK1648 := A_ (blk_drew BK1648.out)
         replace BK1675 := A_ (blk_drew BK1675.out)
         replace HB := A_ (below_drew1 HB.out)
         obtain ⟨Ao44, co44, eo44⟩ := Kd.R_slice HO_3.out
         (first | subst eo44 | (injection eo44 with f1_ f2_ f3_; have f4_ := f1_.symm; have f5_ := f3_.symm; clear f1_ f2_ f3_; subst f4_; subst f5_))
         have p1676 : 0 ≤ (x34_1 : Int) := of_decide_eq_true (by assumption)
         have q1676 : x34_1 < (t1668.length : Int) := of_decide_eq_true (by assumption)
         obtain ⟨ad1676, e1676, hx1676_0, hx1676_1⟩ := at_T23 (Kd.R_reads' HO_3.out).2.2 x34_1 p1676 q1676
         cases e1676
         replace p1676 := eq_true p1676
         replace q1676 := eq_true q1676
         refine start_ (n := 10) (S := fun w' => w'.cell? ⟨gb1675, 0, none⟩ = some (.int .i64 ((rd_T23 t1671 x34_1).f0)) ∧ w'.cell? ⟨gb1675, 1, none⟩ = some (.int .i64 ((rd_T23 t1671 x34_1).f1)) ∧ w'.cell? (ad1676.add ((x34_1).toNat * 2)) = some (.int .i64 ((rd_T23 t1668 x34_1).f0)) ∧ w'.cell? ⟨(ad1676.add ((x34_1).toNat * 2)).block, (ad1676.add ((x34_1).toNat * 2)).off + 1, none⟩ = some (.int .i64 ((rd_T23 t1668 x34_1).f1))) (ds := [7, 8]) (ba 10 0) (by kernel_rfl) rfl rfl ⟨cz BK1675 0, cz BK1675 1, hx1676_0, hx1676_1⟩ (fun hHeld => ?_); refine with_tabW shares_claims_piniles.tab8 shares_claims_piniles.bits8 (fun HT_ HW_ => ?_)
         generalize w42.drew = w43 at HO_3 HO_4 HO_32 BK1648 BK1675 HB hx1676_0 hx1676_1 hHeld ⊢
         refine pq 0 39 1 HT_ ?_
         refine pq 2 41 5 HT_ ?_
         refine pq 3 42 13 HT_ ?_
         refine pq 4 43 29 HT_ ?_
         refine tq 1 40 31 HT_ HW_ hHeld ?_
         refine tq 5 44 63 HT_ HW_ hHeld ?_
         refine oq 6 45 127 HT_ (fun K hK => ?_)
         refine gq Try.func88 #[.agg #[.int .i64 ((rd_T23 t1671 x34_1).f0), .int .i64 ((rd_T23 t1671 x34_1).f1)], .agg #[.int .i64 ((rd_T23 t1668 x34_1).f0), .int .i64 ((rd_T23 t1668 x34_1).f1)]] ?_
         with_reducible refine (shares_add.calls k1 ((rd_T23 t1671 x34_1).f0) ((rd_T23 t1671 x34_1).f1) ((rd_T23 t1668 x34_1).f0) ((rd_T23 t1668 x34_1).f1) t1677 t1678 _ A37.out).mono ?_
         rintro e w45 ⟨rfl, hb⟩
         have HS2_ := (hb.cell (World.block_lt_of_cell? _ _ (hHeld.2.2.1))).trans (hHeld.2.2.1)
         have HS3_ := (hb.cell (World.block_lt_of_cell? _ _ (hHeld.2.2.2))).trans (hHeld.2.2.2)
         refine ⟨_, rfl, ?_⟩
         replace HO_3 := rB HO_3 hb
         replace HO_4 := rB HO_4 hb
         replace HO_32 := rB HO_32 hb
         replace BK1648 := kB BK1648 hb
         replace BK1675 := kB BK1675 hb
         replace HB := bB HB hb
         (try clear hb)
         (try clear hb2)
         (try clear hk)
         (try clear hi)
         refine hK.out _ _ ⟨cz BK1675 0, cz BK1675 1, HS2_, HS3_⟩ (fun hHeld => ?_)
         clear hK K
         refine nq 45 ?_
         refine last_ (i := 7) (N := some 46) (ba 10 255) rfl rfl (one_of HT_.out (by kernel_rfl)) (by decide) (fun K hK => ?_)
         refine value_ (w1 := ?_) (v := ?_) (by rfl) rfl ?_ ?_
         rotate_left 2
         ·go_simp
          constructor
          ·rfl
          ·rfl
         refine hK.out _ _ ?_
         clear hK K
         refine nq 46 ?_
         refine last_ (i := 8) (N := some 47) (ba 10 511) rfl rfl (one_of HT_.out (by kernel_rfl)) (by decide) (fun K hK => ?_)
         refine Kd.R_append_step k23 (w0 := w) w.heap.size (by rfl) (.tmp 39) (.tmp 46) 35 23 (.agg #[(.int .i64 0), (.int .i64 0)]) 16 rfl Try.underlying35 info23 rfl (by decide) (by omega) u4 x4_1 (⟨t1677, t1678⟩ : S23) [.int .i64 t1677, .int .i64 t1678] (fun k_ => some k_ ≠ (.slice (some ad1676) t1668.length co44 : Value).ownBlock ∧ some k_ ≠ (.slice (some ad1674) t1671.length co32 : Value).ownBlock ∧ k_ ≠ gb1675) (fun _ => False) rfl rfl ?aP (fun _ hk => hk.elim) ?aF ?aO ?aB ?aS ?aL ?_
         (case aP => exact k23_mkM _ _ _ (⟨t1677, t1678⟩ : S23))
         (case aB => exact HB.out)
         (case aF => exact (fun k_ hk => ⟨Kd.fresh' (Kd.R_lt HO_3.out) k_ hk, Kd.fresh' (Kd.R_lt HO_32.out) k_ hk, Kd.freshB (g := gb1675) (o := .cells #[.int .i64 ((rd_T23 t1671 x34_1).f0), .int .i64 ((rd_T23 t1671 x34_1).f1)] 23 (0, 0)) BK1675.out k_ hk⟩))
         (case aO => exact HO_4.out)
         (case aS => exact (below_size HB.out))
         (case aL => have := LMc38.out; omega)
         intro v1680 w46 ho hb hg hat
         rw [← Ny1679.out] at ho
         have HO1681 := A_ ho
         replace HO_3 := A_ (Kd.R_after (ok := (fun k_ => some k_ ≠ (.slice (some ad1674) t1671.length co32 : Value).ownBlock ∧ k_ ≠ gb1675)) (by exact Kd.R_mono HO_3.out (fun _ hk => ⟨⟨hk.2.1, hk.2.2⟩, hk.1⟩)) hg hat)
         replace HO_32 := A_ (Kd.R_after (ok := (fun k_ => some k_ ≠ (.slice (some ad1676) t1668.length co44 : Value).ownBlock ∧ k_ ≠ gb1675)) (by exact Kd.R_mono HO_32.out (fun _ hk => ⟨⟨hk.1, hk.2.2⟩, hk.2.1⟩)) hg hat)
         replace BK1648 := A_ (blk_grown BK1648.out hg (Kd.R_ne HO_4.out BK1648.out (by decide)))
         replace BK1675 := A_ (blk_grown BK1675.out hg (Kd.R_away HO_4.out (fun _ hk => hk.2.2)))
         replace HB := A_ hb
         clear HO_4 ho hb hg hat
         refine hK.out _ _ ?_
         clear hK K
         refine nq 47 ?_
         refine pq 9 4 1023 HT_ ?_
         refine done_ (done_of HT_.out (by kernel_rfl)) ?_
         try go_wp2
         go_roundg k1
         case measure => have := HK1.out; omega
         case rel => exact ⟨(y1679), (wrap64 (x34_1 + 1)), rfl, H', ⟨by have := HK1.out; omega⟩, ⟨by exact Kd.R_mono HO_3.out (fun _ hk => ⟨hk.2, hk.1.1⟩)⟩, ⟨by exact Kd.R_mono HO1681.out (fun _ hk => ⟨hk.1, hk.2.1⟩)⟩, ⟨by exact Kd.R_mono HO_32.out (fun _ hk => ⟨hk.1.1, hk.2⟩)⟩, ⟨by exact BK1648.out⟩, ⟨by repeat (first | (with_reducible first | exact HB.out | apply below_alloc | apply pw_below_drewN | apply below_drew1 | refine below_set ?_ GE1648.out | refine below_set ?_ GE1675.out) | exact HB.out)⟩⟩
        ·rw [if_neg c38] at H
         exact absurd H (by simp)
       ·rw [if_neg c36] at H
        exact absurd H (by simp)
      ·rw [if_neg c35] at H
       exact absurd H (by simp)
     ·rw [if_neg c34] at H
      exact absurd H (by simp)
    ·rw [if_neg c33] at H
     have c33b0 : decide (x34_1 < (t1671.length : Int)) = false := decide_eq_false c33
     clear c33
     obtain rfl := Option.some.inj H
     go_wp2
     go_ret
     exact ⟨_, rfl, by exact Kd.R_mono HO_4.out (fun _ hk => trivial), by repeat (first | (with_reducible first | exact HB.out | apply below_alloc | apply pw_below_drewN | apply below_drew1 | refine below_set ?_ GE1648.out) | exact HB.out)⟩
end Go.Proofs.Ytjohcjfmlhihbaa.G
