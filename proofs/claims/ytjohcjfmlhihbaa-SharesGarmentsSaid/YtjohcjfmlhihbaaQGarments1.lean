/- Several texts, joined. -/
import Derived.KernelRfl
import Derived.Test.YtjohcjfmlhihbaaQB5
set_option linter.unusedVariables false
set_option linter.unusedSimpArgs false

/- ### F65 -/
namespace Go.Proofs.Ytjohcjfmlhihbaa.G
open Go.RowKit Go.Proofs.YtjohcjfmlhihbaaW.PrintWords Go.Proofs.YtjohcjfmlhihbaaW.PrintLast Go.Proofs.YtjohcjfmlhihbaaW.PrintMore
attribute [local go_sem] cond_true cond_false fld23_0 fld23_1 fld45_0 fld45_1 fld109_0 fld109_1 fld94_0 fld94_1 max2_int min2_int max_two min_two max_three min_three max_four min_four   -- for this text's walks alone
set_option linter.unusedVariables false
set_option linter.unusedSimpArgs false
def numnahref07_total.l0 : Nat → List Int → Int → Int → Option (Int)
 | 0, _, _, _ => none
 | k + 1, x0, x3, x4 => if x4 < (x0.length : Int) then (if 0 ≤ x4 then (numnahref07_total.l0 k x0 (wrap64 (x3 + (rd x0 x4))) (wrap64 (x4 + 1))) else (none)) else (some x3)
def numnahref07_total.f (k : Nat) (l0 : List Int) : Option (Int) := numnahref07_total.l0 k l0 0 0
theorem numnahref07_total.mono_l : ∀ k, (∀ y0 y1 y2, LeO (numnahref07_total.l0 k y0 y1 y2) (numnahref07_total.l0 (k + 1) y0 y1 y2))
 | 0 => fun _ _ _ r h => by simp [numnahref07_total.l0] at h
 | k + 1 => by
  have ih0 := numnahref07_total.mono_l k
  ·intro y0 y1 y2
   unfold numnahref07_total.l0
   repeat' first
   | (with_reducible exact ih0 _ _ _)
   | (with_reducible exact LeO.refl _)
   | (with_reducible exact LeO.none _)
   | (with_reducible refine LeO.ite ?_ ?_)
   | (with_reducible refine LeO.bind ?_ (fun _ => ?_))
   | exact ih0 _ _ _
   | exact LeO.none _
   | refine LeO.ite ?_ ?_
   | refine LeO.bind ?_ (fun _ => ?_)
theorem numnahref07_total.mono : ∀ a0 k, LeO (numnahref07_total.f k a0) (numnahref07_total.f (k + 1) a0) := by
 intro a0 k
 have ih0 := numnahref07_total.mono_l k
 unfold numnahref07_total.f
 repeat' first
   | (with_reducible exact ih0 _ _ _)
   | (with_reducible exact LeO.refl _)
   | (with_reducible exact LeO.none _)
   | (with_reducible refine LeO.ite ?_ ?_)
   | (with_reducible refine LeO.bind ?_ (fun _ => ?_))
   | exact ih0 _ _ _
   | exact LeO.none _
   | refine LeO.ite ?_ ?_
   | refine LeO.bind ?_ (fun _ => ?_)
set_option maxHeartbeats 8000000 in
set_option maxRecDepth 100000 in
theorem numnahref07_total.calls (k : Nat) (A0 : Option Addr) (c0 : Nat) (l0 : List Int) (r : Int) (w : World) (hr0 : Kd.C (Kd.int .i64) w A0 l0.length l0) (hc0 : l0.length ≤ c0) (h : numnahref07_total.f k l0 = some r) :
  Calls Try.prog 65 #[.slice A0 l0.length c0] w fun e w' => e = .returned (.int .i64 r) ∧ Drawn0 w w' := by
 have HR0 := Aside0.mk hr0
 have HC0 := Aside0.mk hc0
 clear hr0 hc0
 have H : (numnahref07_total.l0 k l0 0 0) = some r := h
 clear h
 have H' := Aside0.mk H
 clear H
 go_enter Try.func65, Try.ntmps65
 go_wp2
 go_loopg [3, 4] k (fun kq v3 v4 w' => ∃ (x3_1 : Int) (x4_1 : Int), v3 = .int .i64 x3_1 ∧ v4 = .int .i64 x4_1 ∧ Aside0 (numnahref07_total.l0 kq l0 x3_1 x4_1 = some r) ∧ Aside0 (kq ≤ k) ∧ Drawn0 w w')
 case atStart => exact ⟨(0), (0), (by first | rfl | (simp; done) | (simp [*]; done)), (by first | rfl | (simp; done) | (simp [*]; done)), H', ⟨Nat.le_refl _⟩, by repeat (first | exact Drawn0.refl _ | apply Drawn0.step)⟩
 case round =>
  clear H'
  obtain ⟨x3_1, x4_1, rfl, rfl, HA, HK1, ⟨m1, rfl⟩⟩ := hrel
  cases gk with
  | zero => exact absurd HA.out (by simp [numnahref07_total.l0])
  | succ k1 =>
   have H := HA.out
   clear HA
   simp only [numnahref07_total.l0] at H
   by_cases c2 : x4_1 < (l0.length : Int)
   ·rw [if_pos c2] at H
    have c2b0 : decide (x4_1 < (l0.length : Int)) = true := decide_eq_true c2
    clear c2
    by_cases c3 : 0 ≤ x4_1
    ·rw [if_pos c3] at H
     have c3b0 : decide (0 ≤ x4_1) = true := decide_eq_true c3
     clear c3
     have H' := Aside0.mk H
     clear H
     have p220 : 0 ≤ (x4_1 : Int) := of_decide_eq_true (by first | (with_reducible assumption) | assumption)
     have q220 : x4_1 < (l0.length : Int) := of_decide_eq_true (by first | (with_reducible assumption) | assumption)
     obtain ⟨ad220, e220, hx220_0⟩ := Kd.at_int HR0.out x4_1 p220 q220
     cases e220
     replace p220 := eq_true p220
     replace q220 := eq_true q220
     go_wp2
     go_roundg k1
     case measure => have := HK1.out; omega
     case rel => exact ⟨(wrap64 (x3_1 + (rd l0 x4_1))), (wrap64 (x4_1 + 1)), (by first | rfl | (simp; done) | (simp [*]; done)), (by first | rfl | (simp; done) | (simp [*]; done)), H', ⟨by have := HK1.out; omega⟩, by repeat (first | exact Drawn0.refl _ | apply Drawn0.step)⟩
    ·rw [if_neg c3] at H
     exact absurd H (by simp)
   ·rw [if_neg c2] at H
    have c2b0 : decide (x4_1 < (l0.length : Int)) = false := decide_eq_false c2
    clear c2
    obtain rfl := Option.some.inj H
    go_wp2
    go_ret
    exact ⟨by first | rfl | (simp; done) | (simp [*]; done), by repeat (first | exact Drawn0.refl _ | apply Drawn0.step)⟩
end Go.Proofs.Ytjohcjfmlhihbaa.G

/- ### F21 -/
namespace Go.Proofs.Ytjohcjfmlhihbaa.G
open Go.RowKit Go.Proofs.YtjohcjfmlhihbaaW.PrintWords Go.Proofs.YtjohcjfmlhihbaaW.PrintLast Go.Proofs.YtjohcjfmlhihbaaW.PrintMore
attribute [local go_sem] cond_true cond_false fld23_0 fld23_1 fld45_0 fld45_1 fld109_0 fld109_1 fld94_0 fld94_1 max2_int min2_int max_two min_two max_three min_three max_four min_four   -- for this text's walks alone
set_option linter.unusedVariables false
set_option linter.unusedSimpArgs false
mutual
def numnahref07_Claims.j0 : Nat → List Int → Int → Bool → Option (Bool)
 | 0, _, _, _ => none
 | k + 1, x0, x1, x13 => if x13 = true then (some false) else (numnahref07_Claims.l0 k x0 x1 0)
def numnahref07_Claims.l0 : Nat → List Int → Int → Int → Option (Bool)
 | 0, _, _, _ => none
 | k + 1, x0, x1, x5 => if x5 < (x0.length : Int) then (if 0 ≤ x5 then (if (rd x0 x5) < 0 then (some false) else (if (rd x0 x5) > 1000 then (some false) else (numnahref07_Claims.l0 k x0 x1 (wrap64 (x5 + 1))))) else (none)) else (if x1 ≥ 0 then ((numnahref07_total.f k x0).bind fun t223 => (some (decide (x1 ≤ t223)))) else (some false))
end
def numnahref07_Claims.f (k : Nat) (l0 : List Int) (a1 : Int) : Option (Bool) := if (l0.length : Int) < 1 then (numnahref07_Claims.j0 k l0 a1 true) else (numnahref07_Claims.j0 k l0 a1 (decide ((l0.length : Int) > 10)))
theorem numnahref07_Claims.mono_l : ∀ k, (∀ y0 y1 y2, LeO (numnahref07_Claims.j0 k y0 y1 y2) (numnahref07_Claims.j0 (k + 1) y0 y1 y2)) ∧ (∀ y0 y1 y2, LeO (numnahref07_Claims.l0 k y0 y1 y2) (numnahref07_Claims.l0 (k + 1) y0 y1 y2))
 | 0 => ⟨fun _ _ _ r h => by simp [numnahref07_Claims.j0] at h, fun _ _ _ r h => by simp [numnahref07_Claims.l0] at h⟩
 | k + 1 => by
  obtain ⟨ih0, ih1⟩ := numnahref07_Claims.mono_l k
  refine ⟨?_, ?_⟩
  ·intro y0 y1 y2
   unfold numnahref07_Claims.j0
   repeat' first
   | (with_reducible exact ih0 _ _ _)
   | (with_reducible exact ih1 _ _ _)
   | (with_reducible exact numnahref07_total.mono _ _)
   | (with_reducible exact LeO.refl _)
   | (with_reducible exact LeO.none _)
   | (with_reducible refine LeO.ite ?_ ?_)
   | (with_reducible refine LeO.bind ?_ (fun _ => ?_))
   | exact ih0 _ _ _
   | exact ih1 _ _ _
   | exact numnahref07_total.mono _ _
   | exact LeO.none _
   | refine LeO.ite ?_ ?_
   | refine LeO.bind ?_ (fun _ => ?_)
  ·intro y0 y1 y2
   unfold numnahref07_Claims.l0
   repeat' first
   | (with_reducible exact ih0 _ _ _)
   | (with_reducible exact ih1 _ _ _)
   | (with_reducible exact numnahref07_total.mono _ _)
   | (with_reducible exact LeO.refl _)
   | (with_reducible exact LeO.none _)
   | (with_reducible refine LeO.ite ?_ ?_)
   | (with_reducible refine LeO.bind ?_ (fun _ => ?_))
   | exact ih0 _ _ _
   | exact ih1 _ _ _
   | exact numnahref07_total.mono _ _
   | exact LeO.none _
   | refine LeO.ite ?_ ?_
   | refine LeO.bind ?_ (fun _ => ?_)
theorem numnahref07_Claims.mono : ∀ a0 a1 k, LeO (numnahref07_Claims.f k a0 a1) (numnahref07_Claims.f (k + 1) a0 a1) := by
 intro a0 a1 k
 obtain ⟨ih0, ih1⟩ := numnahref07_Claims.mono_l k
 unfold numnahref07_Claims.f
 repeat' first
   | (with_reducible exact ih0 _ _ _)
   | (with_reducible exact ih1 _ _ _)
   | (with_reducible exact numnahref07_total.mono _ _)
   | (with_reducible exact LeO.refl _)
   | (with_reducible exact LeO.none _)
   | (with_reducible refine LeO.ite ?_ ?_)
   | (with_reducible refine LeO.bind ?_ (fun _ => ?_))
   | exact ih0 _ _ _
   | exact ih1 _ _ _
   | exact numnahref07_total.mono _ _
   | exact LeO.none _
   | refine LeO.ite ?_ ?_
   | refine LeO.bind ?_ (fun _ => ?_)
set_option maxHeartbeats 8000000 in
set_option maxRecDepth 100000 in
theorem numnahref07_Claims.calls (k : Nat) (A0 : Option Addr) (c0 : Nat) (l0 : List Int) (a1 : Int) (r : Bool) (w : World) (hr0 : Kd.C (Kd.int .i64) w A0 l0.length l0) (hc0 : l0.length ≤ c0) (h : numnahref07_Claims.f k l0 a1 = some r) :
  Calls Try.prog 21 #[.slice A0 l0.length c0, .int .i64 a1] w fun e w' => e = .returned (.bool r) ∧ Drawn0 w w' := by
 have HR0 := A_ hr0
 have HC0 := A_ hc0
 clear hr0 hc0
 have H : (if (l0.length : Int) < 1 then (numnahref07_Claims.j0 k l0 a1 true) else (numnahref07_Claims.j0 k l0 a1 (decide ((l0.length : Int) > 10)))) = some r := h
 clear h
 have HC3 := A_ H
 clear H
 go_enter Try.func21, Try.ntmps21
 go_upto_region 1 with (fail)
 go_cut [13] (fun v13 wc => ∃ (kq : Nat) (x13_2 : Bool), v13 = .bool x13_2 ∧ Aside0 (numnahref07_Claims.j0 kq l0 a1 x13_2 = some r) ∧ Aside0 (kq ≤ k) ∧ Drawn0 w wc)
 case first =>
  have H := HC3.out
  clear HC3
  by_cases c4 : (l0.length : Int) < 1
  ·rw [if_pos c4] at H
   have c4b0 : decide ((l0.length : Int) < 1) = true := decide_eq_true c4
   have c4b1 : decide (l0.length < 1) = true := decide_eq_true (by omega)
   clear c4
   (first | rw [c4b0] | (simp only [i64_w, i32_w]; rw [c4b0]) | skip)
   have H' := A_ H
   clear H
   go_wp2
   go_meet
   case rel => exact ⟨_, (true), (by first | rfl | (simp; done) | (simp [*]; done)), H', ⟨by first | omega | exact Nat.le_refl _⟩, by repeat (first | exact Drawn0.refl _ | apply Drawn0.step)⟩
  ·rw [if_neg c4] at H
   have c4b0 : decide ((l0.length : Int) < 1) = false := decide_eq_false c4
   have c4b1 : decide (l0.length < 1) = false := decide_eq_false (by omega)
   clear c4
   (first | rw [c4b0] | (simp only [i64_w, i32_w]; rw [c4b0]) | skip)
   have H' := A_ H
   clear H
   go_wp2
   go_meet
   case rel => exact ⟨_, (decide ((l0.length : Int) > 10)), (by first | rfl | (simp; done) | (simp [*]; done)), H', ⟨by first | omega | exact Nat.le_refl _⟩, by repeat (first | exact Drawn0.refl _ | apply Drawn0.step)⟩
 case rest =>
  clear HC3
  try clear c2
  try clear p2
  try clear c4
  try clear c4b0
  try clear c4b1
  obtain ⟨kq, x13_2, rfl, HA, HJ2, ⟨mc2, rfl⟩⟩ := hcut
  cases kq with
  | zero => exact absurd HA.out (by simp [numnahref07_Claims.j0])
  | succ kj2 =>
   have H := HA.out
   clear HA
   simp only [numnahref07_Claims.j0] at H
   by_cases c5 : x13_2 = true
   ·subst c5
    have H1 : (some false) = some r := by rw [if_pos rfl] at H; exact H
    clear H
    have H := H1
    clear H1
    obtain rfl := Option.some.inj H
    go_wp2
    go_ret
    exact ⟨by first | rfl | (simp; done) | (simp [*]; done), by repeat (first | exact Drawn0.refl _ | apply Drawn0.step)⟩
   ·replace c5 := Bool.eq_false_iff.mpr c5
    subst c5
    have H1 : (numnahref07_Claims.l0 kj2 l0 a1 0) = some r := by rw [if_neg (show ¬ (false = true) by decide)] at H; exact H
    clear H
    have H := H1
    clear H1
    have H' := A_ H
    clear H
    go_wp2
    go_loopg [5] kj2 (fun kq v5 w' => ∃ (x5_2 : Int), v5 = .int .i64 x5_2 ∧ Aside0 (numnahref07_Claims.l0 kq l0 a1 x5_2 = some r) ∧ Aside0 (kq ≤ kj2) ∧ Drawn0 w w')
    case atStart => exact ⟨(0), (by first | rfl | (simp; done) | (simp [*]; done)), H', ⟨Nat.le_refl _⟩, by repeat (first | exact Drawn0.refl _ | apply Drawn0.step)⟩
    case round =>
     clear H'
     try clear c2
     try clear p2
     try clear c4
     try clear c4b0
     try clear c4b1
     try clear c5
     try clear p2
     obtain ⟨x5_2, rfl, HA, HK2, ⟨m2, rfl⟩⟩ := hrel
     cases gk with
     | zero => exact absurd HA.out (by simp [numnahref07_Claims.l0])
     | succ k2 =>
      have H := HA.out
      clear HA
      simp only [numnahref07_Claims.l0] at H
      by_cases c6 : x5_2 < (l0.length : Int)
      ·rw [if_pos c6] at H
       have c6b0 : decide (x5_2 < (l0.length : Int)) = true := decide_eq_true c6
       clear c6
       by_cases c7 : 0 ≤ x5_2
       ·rw [if_pos c7] at H
        have c7b0 : decide (0 ≤ x5_2) = true := decide_eq_true c7
        clear c7
        by_cases c8 : (rd l0 x5_2) < 0
        ·rw [if_pos c8] at H
         have c8b0 : decide ((rd l0 x5_2) < 0) = true := decide_eq_true c8
         clear c8
         obtain rfl := Option.some.inj H
         have p221 : 0 ≤ (x5_2 : Int) := of_decide_eq_true (by first | (with_reducible assumption) | assumption)
         have q221 : x5_2 < (l0.length : Int) := of_decide_eq_true (by first | (with_reducible assumption) | assumption)
         obtain ⟨ad221, e221, hx221_0⟩ := Kd.at_int HR0.out x5_2 p221 q221
         cases e221
         replace p221 := eq_true p221
         replace q221 := eq_true q221
         go_wp2
         go_ret
         exact ⟨by first | rfl | (simp; done) | (simp [*]; done), by repeat (first | exact Drawn0.refl _ | apply Drawn0.step)⟩
        ·rw [if_neg c8] at H
         have c8b0 : decide ((rd l0 x5_2) < 0) = false := decide_eq_false c8
         clear c8
         by_cases c9 : (rd l0 x5_2) > 1000
         ·rw [if_pos c9] at H
          have c9b0 : decide (1000 < (rd l0 x5_2)) = true := decide_eq_true c9
          clear c9
          obtain rfl := Option.some.inj H
          have p221 : 0 ≤ (x5_2 : Int) := of_decide_eq_true (by first | (with_reducible assumption) | assumption)
          have q221 : x5_2 < (l0.length : Int) := of_decide_eq_true (by first | (with_reducible assumption) | assumption)
          obtain ⟨ad221, e221, hx221_0⟩ := Kd.at_int HR0.out x5_2 p221 q221
          cases e221
          replace p221 := eq_true p221
          replace q221 := eq_true q221
          have p222 : 0 ≤ (x5_2 : Int) := of_decide_eq_true (by first | (with_reducible assumption) | assumption)
          have q222 : x5_2 < (l0.length : Int) := of_decide_eq_true (by first | (with_reducible assumption) | assumption)
          obtain ⟨ad222, e222, hx222_0⟩ := Kd.at_int HR0.out x5_2 p222 q222
          obtain rfl : ad221 = ad222 := (by injection e222)
          replace p222 := eq_true p222
          replace q222 := eq_true q222
          go_wp2
          go_ret
          exact ⟨by first | rfl | (simp; done) | (simp [*]; done), by repeat (first | exact Drawn0.refl _ | apply Drawn0.step)⟩
         ·rw [if_neg c9] at H
          have c9b0 : decide (1000 < (rd l0 x5_2)) = false := decide_eq_false c9
          clear c9
          have H' := A_ H
          clear H
          have p221 : 0 ≤ (x5_2 : Int) := of_decide_eq_true (by first | (with_reducible assumption) | assumption)
          have q221 : x5_2 < (l0.length : Int) := of_decide_eq_true (by first | (with_reducible assumption) | assumption)
          obtain ⟨ad221, e221, hx221_0⟩ := Kd.at_int HR0.out x5_2 p221 q221
          cases e221
          replace p221 := eq_true p221
          replace q221 := eq_true q221
          have p222 : 0 ≤ (x5_2 : Int) := of_decide_eq_true (by first | (with_reducible assumption) | assumption)
          have q222 : x5_2 < (l0.length : Int) := of_decide_eq_true (by first | (with_reducible assumption) | assumption)
          obtain ⟨ad222, e222, hx222_0⟩ := Kd.at_int HR0.out x5_2 p222 q222
          obtain rfl : ad221 = ad222 := (by injection e222)
          replace p222 := eq_true p222
          replace q222 := eq_true q222
          go_wp2
          go_roundg k2
          case measure => have := HJ2.out; have := HK2.out; omega
          case rel => exact ⟨(wrap64 (x5_2 + 1)), (by first | rfl | (simp; done) | (simp [*]; done)), H', ⟨by have := HJ2.out; have := HK2.out; omega⟩, by repeat (first | exact Drawn0.refl _ | apply Drawn0.step)⟩
       ·rw [if_neg c7] at H
        exact absurd H (by simp)
      ·rw [if_neg c6] at H
       have c6b0 : decide (x5_2 < (l0.length : Int)) = false := decide_eq_false c6
       clear c6
       by_cases c10 : a1 ≥ 0
       ·rw [if_pos c10] at H
        have c10b0 : decide (0 ≤ a1) = true := decide_eq_true c10
        clear c10
        replace H := Option.bind_eq_some_iff.mp H
        obtain ⟨t223, A110, H⟩ := H
        replace H : (some (decide (a1 ≤ t223))) = some r := H
        have A11 := A_ A110
        clear A110
        obtain rfl := Option.some.inj H
        go_wp2_with (first | (go_at_call 65; (with_reducible refine (numnahref07_total.calls k2 _ _ l0 t223 _ ?side1 ?side2 A11.out).mono ?_); (case side1 => repeat (first | exact HR0.out | (with_reducible refine Kd.C_alloc ?_ _) | (with_reducible refine Kd.C_drewN ?_ _) | (with_reducible refine Kd.C_drew ?_))); (case side2 => exact HC0.out); rintro e w' ⟨rfl, ⟨nd, rfl⟩⟩))
        go_ret
        exact ⟨by first | rfl | (simp; done) | (simp [*]; done), by repeat (first | exact Drawn0.refl _ | apply Drawn0.step)⟩
       ·rw [if_neg c10] at H
        have c10b0 : decide (0 ≤ a1) = false := decide_eq_false c10
        clear c10
        obtain rfl := Option.some.inj H
        go_wp2
        go_ret
        exact ⟨by first | rfl | (simp; done) | (simp [*]; done), by repeat (first | exact Drawn0.refl _ | apply Drawn0.step)⟩
end Go.Proofs.Ytjohcjfmlhihbaa.G

/- ### Eb -/
namespace Go.Proofs.Ytjohcjfmlhihbaa.P
open Go Go.RowKit Go.Proofs.Ytjohcjfmlhihbaa.G
open Go.Proofs.YtjohcjfmlhihbaaW.PrintWords Go.Proofs.YtjohcjfmlhihbaaW.PrintMore
theorem rd_get {l : List Int} {i : Nat} (h : i < l.length) : rd l (i : Int) = l[i] := by unfold rd; simp [h]
theorem wrap_succ {i : Nat} (h : i < 9223372036854775807) : wrap64 ((i : Int) + 1) = ((i + 1 : Nat) : Int) := by unfold wrap64; omega
/-- The sum of numbers. -/
def sI (l : List Int) : Int := l.foldr (· + ·) 0
theorem sI_cons (a : Int) (l : List Int) : sI (a :: l) = a + sI l := rfl
theorem sI_append (l m : List Int) : sI (l ++ m) = sI l + sI m := by
  induction l with
  | nil => simp [sI]
  | cons a l ih => rw [List.cons_append, sI_cons, sI_cons, ih]; omega
theorem sI_bound {l : List Int} (h : ∀ x ∈ l, 0 ≤ x ∧ x ≤ 1000) : 0 ≤ sI l ∧ sI l ≤ 1000 * (l.length : Int) := by
  induction l with
  | nil => simp [sI]
  | cons a l ih =>
    have h1 := h a (by simp)
    have h2 := ih (fun x hx => h x (List.mem_cons_of_mem _ hx))
    rw [sI_cons, List.length_cons]
    omega
section
variable {l : List Int} (hb : ∀ x ∈ l, 0 ≤ x ∧ x ≤ 1000) (hl : l.length ≤ 1000000)
include hb hl
theorem total_l0 : ∀ (d i : Nat), i + d = l.length → Ev (fun k => shares_total.l0 k (sI (l.take i)) l (l.length : Int) (i : Int)) (sI l) := by
  intro d
  induction d with
  | zero =>
    intro i hi
    refine Ev.step (f := fun _ => some (sI l)) (fun k => ?_) (Ev.now _)
    rw [shares_total.l0, if_neg (by omega), List.take_of_length_le (by omega)]
  | succ d ih =>
    intro i hi
    have hil : i < l.length := by omega
    refine Ev.step (fun k => ?_) (ih (i + 1) (by omega))
    have h1 := (sI_bound (l := l.take (i + 1)) (fun x hx => hb x (List.mem_of_mem_take hx)))
    have h2 : (l.take (i + 1)).length ≤ 1000000 := by rw [List.length_take]; omega
    have e : sI (l.take i) + l[i] = sI (l.take (i + 1)) := by rw [List.take_succ_eq_append_getElem hil, sI_append]; simp [sI]
    rw [shares_total.l0, if_pos (by omega), if_pos (by omega), if_pos (by omega), rd_get hil, e, wrap_id (by omega) (by omega), wrap_succ (by omega)]
theorem ev_total : Ev (fun k => shares_total.f k l) (sI l) := total_l0 hb hl l.length 0 (by omega)
theorem rtotal_l0 : ∀ (d i : Nat), i + d = l.length → Ev (fun k => numnahref07_total.l0 k l (sI (l.take i)) (i : Int)) (sI l) := by
  intro d
  induction d with
  | zero =>
    intro i hi
    refine Ev.step (f := fun _ => some (sI l)) (fun k => ?_) (Ev.now _)
    rw [numnahref07_total.l0, if_neg (by omega), List.take_of_length_le (by omega)]
  | succ d ih =>
    intro i hi
    have hil : i < l.length := by omega
    refine Ev.step (fun k => ?_) (ih (i + 1) (by omega))
    have h1 := (sI_bound (l := l.take (i + 1)) (fun x hx => hb x (List.mem_of_mem_take hx)))
    have h2 : (l.take (i + 1)).length ≤ 1000000 := by rw [List.length_take]; omega
    have e : sI (l.take i) + l[i] = sI (l.take (i + 1)) := by rw [List.take_succ_eq_append_getElem hil, sI_append]; simp [sI]
    rw [numnahref07_total.l0, if_pos (by omega), if_pos (by omega), rd_get hil, e, wrap_id (by omega) (by omega), wrap_succ (by omega)]
theorem ev_rtotal : Ev (fun k => numnahref07_total.f k l) (sI l) := rtotal_l0 hb hl l.length 0 (by omega)
end
/-- Claims, and an estate for them. -/
structure IsCl (l : List Int) : Prop where
  one : 1 ≤ l.length
  ten : l.length ≤ 10
  mem : ∀ x ∈ l, 0 ≤ x ∧ x ≤ 1000
instance (l : List Int) : Decidable (IsCl l) := decidable_of_iff (1 ≤ l.length ∧ l.length ≤ 10 ∧ ∀ x ∈ l, 0 ≤ x ∧ x ≤ 1000) ⟨fun h => ⟨h.1, h.2.1, h.2.2⟩, fun h => ⟨h.1, h.2, h.3⟩⟩
def clB (l : List Int) (e : Int) : Bool := decide (IsCl l ∧ 0 ≤ e ∧ e ≤ sI l)
theorem areClaims_eq {l : List Int} (hf : H.fitL l) : shares_areClaims.f l = some (decide (IsCl l)) := by
  unfold shares_areClaims.f shares_within.f contains119.f
  rw [if_pos hf]
  simp only [Option.bind_some]
  by_cases h1 : (l.length : Int) ≥ 1
  · rw [if_pos h1]
    simp only [Option.bind_some]
    by_cases h2 : (l.length : Int) ≤ 10
    · rw [if_pos (decide_eq_true h2)]
      congr 1
      by_cases h3 : ∀ x ∈ l, 0 ≤ x ∧ x ≤ 1000
      · rw [decide_eq_true (⟨by omega, by omega, h3⟩ : IsCl l)]
        rw [Bool.not_eq_true', List.any_eq_false]
        intro x hx
        simpa using h3 x hx
      · rw [decide_eq_false (fun h : IsCl l => h3 h.mem)]
        rw [Bool.not_eq_false', List.any_eq_true]
        apply Classical.byContradiction
        intro hno
        refine h3 fun x hx => Classical.byContradiction fun hx2 => hno ⟨x, hx, ?_⟩
        rw [Bool.not_eq_true', decide_eq_false_iff_not]
        exact hx2
    · rw [if_neg (by simpa using h2), decide_eq_false (fun h : IsCl l => h2 (by have := h.ten; omega))]
  · rw [if_neg h1]
    simp only [Option.bind_some]
    rw [if_neg (by decide), decide_eq_false (fun h : IsCl l => h1 (by have := h.one; omega))]
theorem ev_newClaims {l : List Int} (hf : H.fitL l) (e : Int) : Ev (fun k => newClaimsR.f k l e) (clB l e) := by
  unfold newClaimsR.f shares_newClaims.f
  rw [areClaims_eq hf]
  simp only [Option.bind_some]
  unfold clB
  by_cases h : IsCl l
  · simp only [h, decide_true, if_true, true_and]
    obtain ⟨K, hK⟩ := ev_total h.mem (by have := h.ten; omega)
    refine ⟨K, fun k hk => ?_⟩
    have hk' : shares_total.f k l = some (sI l) := hK k hk
    show Option.map _ _ = _
    rw [hk']
    simp only [Option.bind_some, shares_within.f]
    by_cases h0 : e ≥ 0
    · rw [if_pos h0]
      simp only [Option.bind_some, Option.map_some]
      congr 1
      rw [Bool.eq_iff_iff, decide_eq_true_iff, decide_eq_true_iff]
      exact ⟨fun k => ⟨h0, k⟩, fun k => k.2⟩
    · rw [if_neg h0]
      simp only [Option.bind_some, Option.map_some]
      rw [decide_eq_false (fun k => h0 k.1)]
  · refine ⟨0, fun k _ => ?_⟩
    simp [h]
theorem rclaims_l0 {l : List Int} (hl : 1 ≤ l.length ∧ l.length ≤ 10) (e : Int) : ∀ (d i : Nat), i + d = l.length → (∀ x ∈ l.take i, 0 ≤ x ∧ x ≤ 1000) → Ev (fun k => numnahref07_Claims.l0 k l e (i : Int)) (clB l e) := by
  intro d
  induction d with
  | zero =>
    intro i hi hm
    rw [List.take_of_length_le (by omega)] at hm
    have hc : IsCl l := ⟨hl.1, hl.2, hm⟩
    unfold clB
    simp only [hc, true_and]
    by_cases h0 : e ≥ 0
    · refine Ev.step (f := fun k => (numnahref07_total.f k l).bind fun t => some (decide (e ≤ t))) (fun k => ?_) (Ev.bind (ev_rtotal hm (by omega)) ?_)
      · rw [numnahref07_Claims.l0, if_neg (by omega), if_pos h0]
      · have : decide (0 ≤ e ∧ e ≤ sI l) = decide (e ≤ sI l) := by
          rw [Bool.eq_iff_iff, decide_eq_true_iff, decide_eq_true_iff]
          exact ⟨fun k => k.2, fun k => ⟨h0, k⟩⟩
        rw [this]
        exact Ev.now _
    · refine Ev.step (f := fun _ => some false) (fun k => ?_) ?_
      · rw [numnahref07_Claims.l0, if_neg (by omega), if_neg h0]
      · rw [decide_eq_false (fun k => h0 k.1)]
        exact Ev.now _
  | succ d ih =>
    intro i hi hm
    have hil : i < l.length := by omega
    by_cases g : 0 ≤ l[i] ∧ l[i] ≤ 1000
    · refine Ev.step (fun k => ?_) (ih (i + 1) (by omega) (fun x hx => ?_))
      · rw [numnahref07_Claims.l0, if_pos (by omega), if_pos (by omega), rd_get hil, if_neg (by omega), if_neg (by omega), wrap_succ (by omega)]
      · rw [List.take_succ_eq_append_getElem hil, List.mem_append] at hx
        rcases hx with hx | hx
        · exact hm x hx
        · rw [List.mem_singleton] at hx
          rw [hx]; exact g
    · have hc : clB l e = false := decide_eq_false (fun h => g (h.1.mem _ (List.getElem_mem hil)))
      rw [hc]
      refine Ev.step (f := fun _ => some false) (fun k => ?_) (Ev.now _)
      rw [numnahref07_Claims.l0, if_pos (by omega), if_pos (by omega), rd_get hil]
      by_cases g1 : l[i] < 0
      · rw [if_pos g1]
      · rw [if_neg g1, if_pos (by omega)]
theorem ev_rclaims (l : List Int) (e : Int) : Ev (fun k => numnahref07_Claims.f k l e) (clB l e) := by
  unfold numnahref07_Claims.f
  by_cases h1 : (l.length : Int) < 1
  · simp only [if_pos h1]
    have hc : clB l e = false := decide_eq_false (fun h => by have := h.1.one; omega)
    rw [hc]
    exact Ev.step (f := fun _ => some false) (fun k => by rw [numnahref07_Claims.j0, if_pos rfl]) (Ev.now _)
  · simp only [if_neg h1]
    by_cases h2 : (l.length : Int) > 10
    · have hc : clB l e = false := decide_eq_false (fun h => by have := h.1.ten; omega)
      rw [hc, decide_eq_true h2]
      exact Ev.step (f := fun _ => some false) (fun k => by rw [numnahref07_Claims.j0, if_pos rfl]) (Ev.now _)
    · rw [decide_eq_false h2]
      refine Ev.step (fun k => by rw [numnahref07_Claims.j0, if_neg (by decide)]; rfl) (rclaims_l0 (by omega) e l.length 0 (by omega) (by simp))
end Go.Proofs.Ytjohcjfmlhihbaa.P

/- ### F66 -/
namespace Go.Proofs.Ytjohcjfmlhihbaa.G
open Go.RowKit Go.Proofs.YtjohcjfmlhihbaaW.PrintWords Go.Proofs.YtjohcjfmlhihbaaW.PrintLast Go.Proofs.YtjohcjfmlhihbaaW.PrintMore
attribute [local go_sem] cond_true cond_false fld23_0 fld23_1 fld45_0 fld45_1 fld109_0 fld109_1 fld94_0 fld94_1 max2_int min2_int max_two min_two max_three min_three max_four min_four   -- for this text's walks alone
set_option linter.unusedVariables false
set_option linter.unusedSimpArgs false
def numnahref07_rest.f (k : Nat) (a0_0 : Int) (a0_1 : Int) (a1 : Int) : Option (Int × Int) := (numnahref07_Whole.f a1).bind fun bt385 => ((numnahref07_Less.f bt385.1 bt385.2 a0_0 a0_1).bind fun t387 => (if t387 = true then ((numnahref07_Whole.f a1).bind fun bt388 => ((numnahref07_Sub.f k a0_0 a0_1 bt388.1 bt388.2).bind fun bt390 => (some (bt390.1, bt390.2)))) else ((numnahref07_Whole.f 0).bind fun bt392 => (some (bt392.1, bt392.2)))))
theorem numnahref07_rest.mono : ∀ a0 a1 a2 k, LeO (numnahref07_rest.f k a0 a1 a2) (numnahref07_rest.f (k + 1) a0 a1 a2) := by
 intro a0 a1 a2 k
 unfold numnahref07_rest.f
 repeat' first
   | (with_reducible exact numnahref07_Sub.mono _ _ _ _ _)
   | (with_reducible exact LeO.refl _)
   | (with_reducible exact LeO.none _)
   | (with_reducible refine LeO.ite ?_ ?_)
   | (with_reducible refine LeO.bind ?_ (fun _ => ?_))
   | exact numnahref07_Sub.mono _ _ _ _ _
   | exact LeO.none _
   | refine LeO.ite ?_ ?_
   | refine LeO.bind ?_ (fun _ => ?_)
set_option maxHeartbeats 8000000 in
set_option maxRecDepth 100000 in
theorem numnahref07_rest.calls (k : Nat) (a0_0 : Int) (a0_1 : Int) (a1 : Int) (r1 : Int) (r2 : Int) (w : World) (h : numnahref07_rest.f k a0_0 a0_1 a1 = some (r1, r2)) :
  Calls Try.prog 66 #[.agg #[.int .i64 a0_0, .int .i64 a0_1], .int .i64 a1] w fun e w' => e = .returned (.agg #[.int .i64 r1, .int .i64 r2]) ∧ Below w.heap.size w w' := by
 have hu23 := Try.underlying23
 have HB := A_ (Below.refl w.heap.size w)
 have H : ((numnahref07_Whole.f a1).bind fun bt385 => ((numnahref07_Less.f bt385.1 bt385.2 a0_0 a0_1).bind fun t387 => (if t387 = true then ((numnahref07_Whole.f a1).bind fun bt388 => ((numnahref07_Sub.f k a0_0 a0_1 bt388.1 bt388.2).bind fun bt390 => (some (bt390.1, bt390.2)))) else ((numnahref07_Whole.f 0).bind fun bt392 => (some (bt392.1, bt392.2)))))) = some (r1, r2) := h
 clear h
 replace H := Option.bind_eq_some_iff.mp H
 obtain ⟨⟨t385, t386⟩, A30, H⟩ := H
 dsimp only at H
 have A3 := A_ A30
 clear A30
 replace H := Option.bind_eq_some_iff.mp H
 obtain ⟨t387, A40, H⟩ := H
 replace H : (if t387 = true then ((numnahref07_Whole.f a1).bind fun bt388 => ((numnahref07_Sub.f k a0_0 a0_1 bt388.1 bt388.2).bind fun bt390 => (some (bt390.1, bt390.2)))) else ((numnahref07_Whole.f 0).bind fun bt392 => (some (bt392.1, bt392.2)))) = some (r1, r2) := H
 have A4 := A_ A40
 clear A40
 by_cases c5 : t387 = true
 ·subst c5
  have H1 : ((numnahref07_Whole.f a1).bind fun bt388 => ((numnahref07_Sub.f k a0_0 a0_1 bt388.1 bt388.2).bind fun bt390 => (some (bt390.1, bt390.2)))) = some (r1, r2) := by rw [if_pos rfl] at H; exact H
  clear H
  have H := H1
  clear H1
  replace H := Option.bind_eq_some_iff.mp H
  obtain ⟨⟨t388, t389⟩, A60, H⟩ := H
  dsimp only at H
  have A6 := A_ A60
  clear A60
  replace H := Option.bind_eq_some_iff.mp H
  obtain ⟨⟨t390, t391⟩, A70, H⟩ := H
  dsimp only at H
  have A7 := A_ A70
  clear A70
  simp only [Option.some.injEq, Prod.mk.injEq] at H
  obtain ⟨rfl, rfl⟩ := H
  go_enter Try.func66, Try.ntmps66
  try go_wp2_with (first | ((with_reducible refine gate_dst (N := 2) rfl ?_); refine box_event ?hg (N := 2) ?hd (cs := #[.int .i64 a0_0, .int .i64 a0_1]) (t := 23) ?hr ?_; (case hd => rfl); (case hg => rfl); (case hr => first | (go_simp; done) | (go_simp; rfl)); intro gb383 hg w8 hbox hb; have BK383 := A_ hbox; have GW383 := gw hg HB; have GE383 := GW383; replace HB := bB HB hb; clear hb hbox hg) | ((with_reducible refine gate_dst (N := 4) rfl ?_); refine box_event ?hg (N := 4) ?hd (cs := #[.int .i64 0, .int .i64 0]) (t := 23) ?hr ?_; (case hd => rfl); (case hg => rfl); (case hr => first | (go_simp; done) | (go_simp; rfl)); intro gb384 hg w9 hbox hb; have BK384 := A_ hbox; have GW384 := gw hg HB; have GE384 := GW384; have NB383_384 := nl hg BK383; have NB384_383 := ng hg BK383; replace BK383 := kB BK383 hb; replace HB := bB HB hb; clear hb hbox hg))
  replace BK383 := A_ (blk_drew BK383.out)
  replace BK384 := A_ (blk_drew BK384.out)
  replace HB := A_ (below_drew1 HB.out)
  refine start_ (n := 4) (S := fun w' => w'.cell? ⟨gb383, 0, none⟩ = some (.int .i64 a0_0) ∧ w'.cell? ⟨gb383, 1, none⟩ = some (.int .i64 a0_1)) (ds := []) (ba 4 0) (by kernel_rfl) rfl rfl ⟨cz BK383 0, cz BK383 1⟩ (fun hHeld => ?_)
  generalize w9.drew = w10 at BK383 BK384 HB hHeld ⊢
  refine pr 0 5 1 ?_
  refine tr 2 7 5 hHeld ?_
  refine os 1 6 7 (fun K hK => ?_)
  refine gq Try.func23 #[.int .i64 a1] ?_
  with_reducible refine (numnahref07_Whole.calls a1 t385 t386 _ A3.out).mono ?_
  rintro e w11 ⟨rfl, hb⟩
  refine ⟨_, rfl, ?_⟩
  replace BK383 := kB BK383 hb
  replace BK384 := kB BK384 hb
  replace HB := bB HB hb
  (try clear hb)
  (try clear hb2)
  (try clear hk)
  (try clear hi)
  refine hK.out _ _ ⟨cz BK383 0, cz BK383 1⟩ (fun hHeld => ?_)
  clear hK K
  refine nq 6 ?_
  refine os 3 8 15 (fun K hK => ?_)
  refine gq Try.func30 #[.agg #[.int .i64 t385, .int .i64 t386], .agg #[.int .i64 a0_0, .int .i64 a0_1]] ?_
  with_reducible refine (numnahref07_Less.calls t385 t386 a0_0 a0_1 true _ A4.out).mono ?_
  rintro e w12 ⟨rfl, hb⟩
  refine ⟨_, rfl, ?_⟩
  replace BK383 := kB BK383 hb
  replace BK384 := kB BK384 hb
  replace HB := bB HB hb
  (try clear hb)
  (try clear hb2)
  (try clear hk)
  (try clear hi)
  refine hK.out _ _ ⟨cz BK383 0, cz BK383 1⟩ (fun hHeld => ?_)
  clear hK K
  refine nq 8 ?_
  refine done_ (by kernel_rfl) ?_
  try go_wp2
  replace BK383 := A_ (blk_drew BK383.out)
  replace BK384 := A_ (blk_drew BK384.out)
  replace HB := A_ (below_drew1 HB.out)
  refine start_ (n := 5) (S := fun w' => w'.cell? ⟨gb383, 0, none⟩ = some (.int .i64 a0_0) ∧ w'.cell? ⟨gb383, 1, none⟩ = some (.int .i64 a0_1)) (ds := []) (ba 5 0) (by kernel_rfl) rfl rfl ⟨cz BK383 0, cz BK383 1⟩ (fun hHeld => ?_)
  generalize w12.drew = w13 at BK383 BK384 HB hHeld ⊢
  refine pr 1 10 2 ?_
  refine tr 0 9 3 hHeld ?_
  refine os 2 11 7 (fun K hK => ?_)
  refine gq Try.func23 #[.int .i64 a1] ?_
  with_reducible refine (numnahref07_Whole.calls a1 t388 t389 _ A6.out).mono ?_
  rintro e w14 ⟨rfl, hb⟩
  refine ⟨_, rfl, ?_⟩
  replace BK383 := kB BK383 hb
  replace BK384 := kB BK384 hb
  replace HB := bB HB hb
  (try clear hb)
  (try clear hb2)
  (try clear hk)
  (try clear hi)
  refine hK.out _ _ ⟨cz BK383 0, cz BK383 1⟩ (fun hHeld => ?_)
  clear hK K
  refine nq 11 ?_
  refine os 3 12 15 (fun K hK => ?_)
  refine gq Try.func31 #[.agg #[.int .i64 a0_0, .int .i64 a0_1], .agg #[.int .i64 t388, .int .i64 t389]] ?_
  with_reducible refine (numnahref07_Sub.calls k a0_0 a0_1 t388 t389 t390 t391 _ A7.out).mono ?_
  rintro e w15 ⟨rfl, hb⟩
  refine ⟨_, rfl, ?_⟩
  replace BK383 := kB BK383 hb
  replace BK384 := kB BK384 hb
  replace HB := bB HB hb
  (try clear hb)
  (try clear hb2)
  (try clear hk)
  (try clear hi)
  refine hK.out _ _ ⟨cz BK383 0, cz BK383 1⟩ (fun hHeld => ?_)
  clear hK K
  refine nq 12 ?_
  refine one_ (i := 4) (N := none) (ba 5 31) rfl rfl (by kernel_rfl) (by decide) (fun K hK => ?_)
  have hs16 : w15.cell? ⟨gb384, 0, none⟩ = some (.int .i64 0) := cz BK384 0
  have hfs16 := blk_frozen BK384.out 0
  have hns16_0 := NB383_384.out
  have hms16_0 := NB384_383.out
  have hs17 : w15.cell? ⟨gb384, 1, none⟩ = some (.int .i64 0) := cz BK384 1
  have hfs17 := blk_frozen BK384.out 1
  have hns17_0 := NB383_384.out
  have hms17_0 := NB384_383.out
  refine skip_ (w1 := ?_) (by rfl) rfl ?_ ?_
  rotate_left
  ·go_simp
   rfl
  refine hK.out _ _ ⟨((cell_far (p := ⟨gb384, _, none⟩) NB383_384.out _).trans (((cell_far (p := ⟨gb384, _, none⟩) NB383_384.out _).trans (hHeld.1)))), ((cell_far (p := ⟨gb384, _, none⟩) NB383_384.out _).trans (((cell_far (p := ⟨gb384, _, none⟩) NB383_384.out _).trans (hHeld.2))))⟩ (fun hHeld => ?_)
  clear hK K
  refine done_ (by kernel_rfl) ?_
  try go_wp2
  refine bodyPost_ret (results_cell_row rfl _ _ gb384 23 #[.int .i64 t390, .int .i64 t391] (0, 0) _ rfl (by (with_reducible repeat (first | refine blk_drewN ?_ _ | refine blk_drew ?_ | refine blk_alloc ?_ _)); refine blk_put (cs := #[.int .i64 t390, .int .i64 0]) ?_ 1 _ rfl; (with_reducible repeat (first | refine blk_drewN ?_ _ | refine blk_drew ?_ | refine blk_alloc ?_ _)); refine blk_put (cs := #[.int .i64 0, .int .i64 0]) ?_ 0 _ rfl; (with_reducible repeat (first | refine blk_drewN ?_ _ | refine blk_drew ?_ | refine blk_alloc ?_ _)); exact BK384.out) Try.underlying23 rfl (by kernel_rfl)) rfl ?_
  exact ⟨rfl, by repeat (first | (with_reducible first | exact HB.out | apply below_alloc | apply pw_below_drewN | apply below_drew1 | refine below_set ?_ GE383.out | refine below_set ?_ GE384.out) | exact HB.out)⟩
 ·replace c5 := Bool.eq_false_iff.mpr c5
  subst c5
  have H1 : ((numnahref07_Whole.f 0).bind fun bt392 => (some (bt392.1, bt392.2))) = some (r1, r2) := by rw [if_neg (show ¬ (false = true) by decide)] at H; exact H
  clear H
  have H := H1
  clear H1
  replace H := Option.bind_eq_some_iff.mp H
  obtain ⟨⟨t392, t393⟩, A180, H⟩ := H
  dsimp only at H
  have A18 := A_ A180
  clear A180
  simp only [Option.some.injEq, Prod.mk.injEq] at H
  obtain ⟨rfl, rfl⟩ := H
  go_enter Try.func66, Try.ntmps66
  try go_wp2_with (first | ((with_reducible refine gate_dst (N := 2) rfl ?_); refine box_event ?hg (N := 2) ?hd (cs := #[.int .i64 a0_0, .int .i64 a0_1]) (t := 23) ?hr ?_; (case hd => rfl); (case hg => rfl); (case hr => first | (go_simp; done) | (go_simp; rfl)); intro gb383 hg w19 hbox hb; have BK383 := A_ hbox; have GW383 := gw hg HB; have GE383 := GW383; replace HB := bB HB hb; clear hb hbox hg) | ((with_reducible refine gate_dst (N := 4) rfl ?_); refine box_event ?hg (N := 4) ?hd (cs := #[.int .i64 0, .int .i64 0]) (t := 23) ?hr ?_; (case hd => rfl); (case hg => rfl); (case hr => first | (go_simp; done) | (go_simp; rfl)); intro gb384 hg w20 hbox hb; have BK384 := A_ hbox; have GW384 := gw hg HB; have GE384 := GW384; have NB383_384 := nl hg BK383; have NB384_383 := ng hg BK383; replace BK383 := kB BK383 hb; replace HB := bB HB hb; clear hb hbox hg))
  replace BK383 := A_ (blk_drew BK383.out)
  replace BK384 := A_ (blk_drew BK384.out)
  replace HB := A_ (below_drew1 HB.out)
  refine start_ (n := 4) (S := fun w' => w'.cell? ⟨gb383, 0, none⟩ = some (.int .i64 a0_0) ∧ w'.cell? ⟨gb383, 1, none⟩ = some (.int .i64 a0_1)) (ds := []) (ba 4 0) (by kernel_rfl) rfl rfl ⟨cz BK383 0, cz BK383 1⟩ (fun hHeld => ?_)
  generalize w20.drew = w21 at BK383 BK384 HB hHeld ⊢
  refine pr 0 5 1 ?_
  refine tr 2 7 5 hHeld ?_
  refine os 1 6 7 (fun K hK => ?_)
  refine gq Try.func23 #[.int .i64 a1] ?_
  with_reducible refine (numnahref07_Whole.calls a1 t385 t386 _ A3.out).mono ?_
  rintro e w22 ⟨rfl, hb⟩
  refine ⟨_, rfl, ?_⟩
  replace BK383 := kB BK383 hb
  replace BK384 := kB BK384 hb
  replace HB := bB HB hb
  (try clear hb)
  (try clear hb2)
  (try clear hk)
  (try clear hi)
  refine hK.out _ _ ⟨cz BK383 0, cz BK383 1⟩ (fun hHeld => ?_)
  clear hK K
  refine nq 6 ?_
  refine os 3 8 15 (fun K hK => ?_)
  refine gq Try.func30 #[.agg #[.int .i64 t385, .int .i64 t386], .agg #[.int .i64 a0_0, .int .i64 a0_1]] ?_
  with_reducible refine (numnahref07_Less.calls t385 t386 a0_0 a0_1 false _ A4.out).mono ?_
  rintro e w23 ⟨rfl, hb⟩
  refine ⟨_, rfl, ?_⟩
  replace BK383 := kB BK383 hb
  replace BK384 := kB BK384 hb
  replace HB := bB HB hb
  (try clear hb)
  (try clear hb2)
  (try clear hk)
  (try clear hi)
  refine hK.out _ _ ⟨cz BK383 0, cz BK383 1⟩ (fun hHeld => ?_)
  clear hK K
  refine nq 8 ?_
  refine done_ (by kernel_rfl) ?_
  try go_wp2_with (first | ((with_reducible refine gate_callee (f := 23) rfl ?_); refine goesL_ (some 13) rfl rfl Try.func23 (by kernel_rfl) rfl #[.int .i64 0] rfl (by (try simp only [List.map_toArray, List.map_cons, List.map_nil]); first | done | rfl | (simp only [List.length_drop, List.length_take]; rfl)) ?_; (with_reducible refine (numnahref07_Whole.calls 0 t392 t393 _ A18.out).mono ?_); rintro e w24 ⟨rfl, hb⟩; refine ⟨_, rfl, ?_⟩; replace BK383 := kB BK383 hb; replace BK384 := kB BK384 hb; replace HB := bB HB hb; (try clear hb); (try clear hb2); (try clear hk); (try clear hi); have hnb25 := NB384_383.out; have hnc25 := NB383_384.out; have hcz26_0 : w24.cell? ⟨gb384, 0, none⟩ = some (.int .i64 0) := cz BK384 0; have hcz26_1 : w24.cell? ⟨gb384, 1, none⟩ = some (.int .i64 0) := cz BK384 1; have hfz26_0 := blk_frozen BK384.out 0; have hfz26_1 := blk_frozen BK384.out 1))
  refine bodyPost_ret (results_cell_row rfl _ _ gb384 23 #[.int .i64 t392, .int .i64 t393] (0, 0) _ rfl (by (with_reducible repeat (first | refine blk_drewN ?_ _ | refine blk_drew ?_ | refine blk_alloc ?_ _)); refine blk_put (cs := #[.int .i64 t392, .int .i64 0]) ?_ 1 _ rfl; (with_reducible repeat (first | refine blk_drewN ?_ _ | refine blk_drew ?_ | refine blk_alloc ?_ _)); refine blk_put (cs := #[.int .i64 0, .int .i64 0]) ?_ 0 _ rfl; (with_reducible repeat (first | refine blk_drewN ?_ _ | refine blk_drew ?_ | refine blk_alloc ?_ _)); exact BK384.out) Try.underlying23 rfl (by kernel_rfl)) rfl ?_
  exact ⟨rfl, by repeat (first | (with_reducible first | exact HB.out | apply below_alloc | apply pw_below_drewN | apply below_drew1 | refine below_set ?_ GE383.out | refine below_set ?_ GE384.out) | exact HB.out)⟩
end Go.Proofs.Ytjohcjfmlhihbaa.G

/- ### F24 -/
namespace Go.Proofs.Ytjohcjfmlhihbaa.G
open Go.RowKit Go.Proofs.YtjohcjfmlhihbaaW.PrintWords Go.Proofs.YtjohcjfmlhihbaaW.PrintLast Go.Proofs.YtjohcjfmlhihbaaW.PrintMore
attribute [local go_sem] cond_true cond_false fld23_0 fld23_1 fld45_0 fld45_1 fld109_0 fld109_1 fld94_0 fld94_1 max2_int min2_int max_two min_two max_three min_three max_four min_four   -- for this text's walks alone
set_option linter.unusedVariables false
set_option linter.unusedSimpArgs false
def numnahref07_Garment.f (k : Nat) (a0_0 : Int) (a0_1 : Int) (a1 : Int) (a2 : Int) : Option (Int × Int) := (numnahref07_rest.f k a0_0 a0_1 a2).bind fun bt400 => ((numnahref07_rest.f k a0_0 a0_1 a1).bind fun bt402 => ((numnahref07_Sub.f k a0_0 a0_1 bt400.1 bt400.2).bind fun bt406 => ((numnahref07_Sub.f k bt406.1 bt406.2 bt402.1 bt402.2).bind fun bt408 => ((numnahref07_Half.f k bt408.1 bt408.2).bind fun bt410 => ((numnahref07_Add.f k bt400.1 bt400.2 bt410.1 bt410.2).bind fun bt412 => (some (bt412.1, bt412.2)))))))
theorem numnahref07_Garment.mono : ∀ a0 a1 a2 a3 k, LeO (numnahref07_Garment.f k a0 a1 a2 a3) (numnahref07_Garment.f (k + 1) a0 a1 a2 a3) := by
 intro a0 a1 a2 a3 k
 unfold numnahref07_Garment.f
 repeat' first
   | (with_reducible exact numnahref07_Add.mono _ _ _ _ _)
   | (with_reducible exact numnahref07_Half.mono _ _ _)
   | (with_reducible exact numnahref07_Sub.mono _ _ _ _ _)
   | (with_reducible exact numnahref07_rest.mono _ _ _ _)
   | (with_reducible exact LeO.refl _)
   | (with_reducible exact LeO.none _)
   | (with_reducible refine LeO.ite ?_ ?_)
   | (with_reducible refine LeO.bind ?_ (fun _ => ?_))
   | exact numnahref07_Add.mono _ _ _ _ _
   | exact numnahref07_Half.mono _ _ _
   | exact numnahref07_Sub.mono _ _ _ _ _
   | exact numnahref07_rest.mono _ _ _ _
   | exact LeO.none _
   | refine LeO.ite ?_ ?_
   | refine LeO.bind ?_ (fun _ => ?_)
def numnahref07_Garment.T1 : Bool × List (List Nat × List Nat) := (true, [([], []), ([], []), ([0, 1], [0, 1]), ([], []), ([], []), ([3, 4, 2], [3, 4]), ([], []), ([], []), ([6, 2, 5, 0, 1, 2, 6, 7], [2, 6]), ([7, 5, 8, 0, 1, 2, 3, 4, 5, 6, 7, 8], [5, 7])])
def numnahref07_Garment.B1 : List Nat := [0, 0, 3, 0, 0, 31, 0, 0, 255, 511]
theorem numnahref07_Garment.tab1 : rtab .any (opsOf Try.f24 1) = numnahref07_Garment.T1 := by kernel_rfl
theorem numnahref07_Garment.bits1 : waitsOk numnahref07_Garment.T1.2 numnahref07_Garment.B1 = true := by kernel_rfl
def numnahref07_Garment.T2 : Bool × List (List Nat × List Nat) := (true, [([], []), ([], []), ([], []), ([1, 2], [1, 2]), ([], []), ([3, 4, 3], [3, 4]), ([5, 5], [5]), ([0, 6, 6], [0, 6]), ([7, 7, 0, 1, 2, 3, 4, 5, 6, 7], [7])])
def numnahref07_Garment.B2 : List Nat := [0, 0, 0, 6, 0, 30, 62, 127, 255]
theorem numnahref07_Garment.tab2 : rtab .any (opsOf Try.f24 2) = numnahref07_Garment.T2 := by kernel_rfl
theorem numnahref07_Garment.bits2 : waitsOk numnahref07_Garment.T2.2 numnahref07_Garment.B2 = true := by kernel_rfl
set_option maxHeartbeats 8000000 in
set_option maxRecDepth 100000 in
theorem numnahref07_Garment.calls (k : Nat) (a0_0 : Int) (a0_1 : Int) (a1 : Int) (a2 : Int) (r1 : Int) (r2 : Int) (w : World) (h : numnahref07_Garment.f k a0_0 a0_1 a1 a2 = some (r1, r2)) :
  Calls Try.prog 24 #[.agg #[.int .i64 a0_0, .int .i64 a0_1], .int .i64 a1, .int .i64 a2] w fun e w' => e = .returned (.agg #[.int .i64 r1, .int .i64 r2]) ∧ Below w.heap.size w w' := by
 have hu23 := Try.underlying23
 have HB := A_ (Below.refl w.heap.size w)
 have H : ((numnahref07_rest.f k a0_0 a0_1 a2).bind fun bt400 => ((numnahref07_rest.f k a0_0 a0_1 a1).bind fun bt402 => ((numnahref07_Sub.f k a0_0 a0_1 bt400.1 bt400.2).bind fun bt406 => ((numnahref07_Sub.f k bt406.1 bt406.2 bt402.1 bt402.2).bind fun bt408 => ((numnahref07_Half.f k bt408.1 bt408.2).bind fun bt410 => ((numnahref07_Add.f k bt400.1 bt400.2 bt410.1 bt410.2).bind fun bt412 => (some (bt412.1, bt412.2)))))))) = some (r1, r2) := h
 clear h
 replace H := Option.bind_eq_some_iff.mp H
 obtain ⟨⟨t400, t401⟩, A40, H⟩ := H
 dsimp only at H
 have A4 := A_ A40
 clear A40
 replace H := Option.bind_eq_some_iff.mp H
 obtain ⟨⟨t402, t403⟩, A50, H⟩ := H
 dsimp only at H
 have A5 := A_ A50
 clear A50
 replace H := Option.bind_eq_some_iff.mp H
 obtain ⟨⟨t406, t407⟩, A60, H⟩ := H
 dsimp only at H
 have A6 := A_ A60
 clear A60
 replace H := Option.bind_eq_some_iff.mp H
 obtain ⟨⟨t408, t409⟩, A70, H⟩ := H
 dsimp only at H
 have A7 := A_ A70
 clear A70
 replace H := Option.bind_eq_some_iff.mp H
 obtain ⟨⟨t410, t411⟩, A80, H⟩ := H
 dsimp only at H
 have A8 := A_ A80
 clear A80
 replace H := Option.bind_eq_some_iff.mp H
 obtain ⟨⟨t412, t413⟩, A90, H⟩ := H
 dsimp only at H
 have A9 := A_ A90
 clear A90
 simp only [Option.some.injEq, Prod.mk.injEq] at H
 obtain ⟨rfl, rfl⟩ := H
 go_enter Try.func24, Try.ntmps24
 try go_wp2_with (first | ((with_reducible refine gate_dst (N := 3) rfl ?_); refine box_event ?hg (N := 3) ?hd (cs := #[.int .i64 a0_0, .int .i64 a0_1]) (t := 23) ?hr ?_; (case hd => rfl); (case hg => rfl); (case hr => first | (go_simp; done) | (go_simp; rfl)); intro gb398 hg w10 hbox hb; have BK398 := A_ hbox; have GW398 := gw hg HB; have GE398 := GW398; replace HB := bB HB hb; clear hb hbox hg) | ((with_reducible refine gate_dst (N := 6) rfl ?_); refine box_event ?hg (N := 6) ?hd (cs := #[.int .i64 0, .int .i64 0]) (t := 23) ?hr ?_; (case hd => rfl); (case hg => rfl); (case hr => first | (go_simp; done) | (go_simp; rfl)); intro gb399 hg w11 hbox hb; have BK399 := A_ hbox; have GW399 := gw hg HB; have GE399 := GW399; have NB398_399 := nl hg BK398; have NB399_398 := ng hg BK398; replace BK398 := kB BK398 hb; replace HB := bB HB hb; clear hb hbox hg))
 replace BK398 := A_ (blk_drew BK398.out)
 replace BK399 := A_ (blk_drew BK399.out)
 replace HB := A_ (below_drew1 HB.out)
 refine start_ (n := 10) (S := fun w' => w'.cell? ⟨gb398, 0, none⟩ = some (.int .i64 a0_0) ∧ w'.cell? ⟨gb398, 1, none⟩ = some (.int .i64 a0_1)) (ds := []) (ba 10 0) (by kernel_rfl) rfl rfl ⟨cz BK398 0, cz BK398 1⟩ (fun hHeld => ?_); refine with_tabW numnahref07_Garment.tab1 numnahref07_Garment.bits1 (fun HT_ HW_ => ?_)
 generalize w11.drew = w12 at BK398 BK399 HB hHeld ⊢
 refine pq 1 10 2 HT_ ?_
 refine pq 4 13 18 HT_ ?_
 refine tq 0 9 19 HT_ HW_ hHeld ?_
 refine tq 3 12 27 HT_ HW_ hHeld ?_
 refine join_ (σ := Nat × Nat) 2 (ba 10 255) (fun s_ => [(11, .agg #[.int .i64 t400, .int .i64 t401]), (14, .agg #[.int .i64 t402, .int .i64 t403]), (7, .pointer (some ⟨s_.1, 0, none⟩)), (8, .pointer (some ⟨s_.2, 0, none⟩))]) (fun s_ w' => (w'.cell? ⟨gb398, 0, none⟩ = some (.int .i64 a0_0) ∧ w'.cell? ⟨gb398, 1, none⟩ = some (.int .i64 a0_1)) ∧ (w'.heap[gb398]? = some (.cells #[.int .i64 a0_0, .int .i64 a0_1] 23 (0, 0))) ∧ (w'.heap[gb399]? = some (.cells #[.int .i64 0, .int .i64 0] 23 (0, 0))) ∧ (w'.heap[s_.1]? = some (.cells #[.int .i64 0, .int .i64 0] 23 (0, 0))) ∧ (w'.heap[s_.2]? = some (.cells #[.int .i64 0, .int .i64 0] 23 (0, 0))) ∧ (w.heap.size ≤ s_.1) ∧ (w.heap.size ≤ s_.1) ∧ (gb398 ≠ s_.1) ∧ (s_.1 ≠ gb398) ∧ (gb399 ≠ s_.1) ∧ (s_.1 ≠ gb399) ∧ (s_.2 ≠ s_.1) ∧ (s_.1 ≠ s_.2) ∧ (w.heap.size ≤ s_.2) ∧ (w.heap.size ≤ s_.2) ∧ (gb398 ≠ s_.2) ∧ (s_.2 ≠ gb398) ∧ (gb399 ≠ s_.2) ∧ (s_.2 ≠ gb399) ∧ (Below w.heap.size w w')) ?_ ?_
 rotate_left
 ·intro hJ2_5_6_7
  refine join_ (σ := Nat) 3 (ba 10 127) (fun s_ => [(11, .agg #[.int .i64 t400, .int .i64 t401]), (14, .agg #[.int .i64 t402, .int .i64 t403]), (7, .pointer (some ⟨s_, 0, none⟩))]) (fun s_ w' => (w'.cell? ⟨gb398, 0, none⟩ = some (.int .i64 a0_0) ∧ w'.cell? ⟨gb398, 1, none⟩ = some (.int .i64 a0_1)) ∧ (w'.heap[gb398]? = some (.cells #[.int .i64 a0_0, .int .i64 a0_1] 23 (0, 0))) ∧ (w'.heap[gb399]? = some (.cells #[.int .i64 0, .int .i64 0] 23 (0, 0))) ∧ (w'.heap[s_]? = some (.cells #[.int .i64 0, .int .i64 0] 23 (0, 0))) ∧ (w.heap.size ≤ s_) ∧ (w.heap.size ≤ s_) ∧ (gb398 ≠ s_) ∧ (s_ ≠ gb398) ∧ (gb399 ≠ s_) ∧ (s_ ≠ gb399) ∧ (Below w.heap.size w w')) ?_ ?_
  rotate_left
  ·intro hJ2_5_6
   refine join_ (σ := Nat) 3 (ba 10 191) (fun s_ => [(11, .agg #[.int .i64 t400, .int .i64 t401]), (14, .agg #[.int .i64 t402, .int .i64 t403]), (8, .pointer (some ⟨s_, 0, none⟩))]) (fun s_ w' => (w'.cell? ⟨gb398, 0, none⟩ = some (.int .i64 a0_0) ∧ w'.cell? ⟨gb398, 1, none⟩ = some (.int .i64 a0_1)) ∧ (w'.heap[gb398]? = some (.cells #[.int .i64 a0_0, .int .i64 a0_1] 23 (0, 0))) ∧ (w'.heap[gb399]? = some (.cells #[.int .i64 0, .int .i64 0] 23 (0, 0))) ∧ (w'.heap[s_]? = some (.cells #[.int .i64 0, .int .i64 0] 23 (0, 0))) ∧ (w.heap.size ≤ s_) ∧ (w.heap.size ≤ s_) ∧ (gb398 ≠ s_) ∧ (s_ ≠ gb398) ∧ (gb399 ≠ s_) ∧ (s_ ≠ gb399) ∧ (Below w.heap.size w w')) ?_ ?_
   rotate_left
   ·intro hJ2_5_7
    refine join_ (σ := Nat × Nat) 3 (ba 10 223) (fun s_ => [(11, .agg #[.int .i64 t400, .int .i64 t401]), (7, .pointer (some ⟨s_.1, 0, none⟩)), (8, .pointer (some ⟨s_.2, 0, none⟩))]) (fun s_ w' => (w'.cell? ⟨gb398, 0, none⟩ = some (.int .i64 a0_0) ∧ w'.cell? ⟨gb398, 1, none⟩ = some (.int .i64 a0_1)) ∧ (w'.heap[gb398]? = some (.cells #[.int .i64 a0_0, .int .i64 a0_1] 23 (0, 0))) ∧ (w'.heap[gb399]? = some (.cells #[.int .i64 0, .int .i64 0] 23 (0, 0))) ∧ (w'.heap[s_.1]? = some (.cells #[.int .i64 0, .int .i64 0] 23 (0, 0))) ∧ (w'.heap[s_.2]? = some (.cells #[.int .i64 0, .int .i64 0] 23 (0, 0))) ∧ (w.heap.size ≤ s_.1) ∧ (w.heap.size ≤ s_.1) ∧ (gb398 ≠ s_.1) ∧ (s_.1 ≠ gb398) ∧ (gb399 ≠ s_.1) ∧ (s_.1 ≠ gb399) ∧ (s_.2 ≠ s_.1) ∧ (s_.1 ≠ s_.2) ∧ (w.heap.size ≤ s_.2) ∧ (w.heap.size ≤ s_.2) ∧ (gb398 ≠ s_.2) ∧ (s_.2 ≠ gb398) ∧ (gb399 ≠ s_.2) ∧ (s_.2 ≠ gb399) ∧ (Below w.heap.size w w')) ?_ ?_
    rotate_left
    ·intro hJ2_6_7
     refine join_ (σ := Unit) 4 (ba 10 63) (fun s_ => [(11, .agg #[.int .i64 t400, .int .i64 t401]), (14, .agg #[.int .i64 t402, .int .i64 t403])]) (fun s_ w' => (w'.cell? ⟨gb398, 0, none⟩ = some (.int .i64 a0_0) ∧ w'.cell? ⟨gb398, 1, none⟩ = some (.int .i64 a0_1)) ∧ (w'.heap[gb398]? = some (.cells #[.int .i64 a0_0, .int .i64 a0_1] 23 (0, 0))) ∧ (w'.heap[gb399]? = some (.cells #[.int .i64 0, .int .i64 0] 23 (0, 0))) ∧ (Below w.heap.size w w')) ?_ ?_
     rotate_left
     ·intro hJ2_5
      refine join_ (σ := Nat) 4 (ba 10 95) (fun s_ => [(11, .agg #[.int .i64 t400, .int .i64 t401]), (7, .pointer (some ⟨s_, 0, none⟩))]) (fun s_ w' => (w'.cell? ⟨gb398, 0, none⟩ = some (.int .i64 a0_0) ∧ w'.cell? ⟨gb398, 1, none⟩ = some (.int .i64 a0_1)) ∧ (w'.heap[gb398]? = some (.cells #[.int .i64 a0_0, .int .i64 a0_1] 23 (0, 0))) ∧ (w'.heap[gb399]? = some (.cells #[.int .i64 0, .int .i64 0] 23 (0, 0))) ∧ (w'.heap[s_]? = some (.cells #[.int .i64 0, .int .i64 0] 23 (0, 0))) ∧ (w.heap.size ≤ s_) ∧ (w.heap.size ≤ s_) ∧ (gb398 ≠ s_) ∧ (s_ ≠ gb398) ∧ (gb399 ≠ s_) ∧ (s_ ≠ gb399) ∧ (Below w.heap.size w w')) ?_ ?_
      rotate_left
      ·intro hJ2_6
       refine join_ (σ := Nat) 4 (ba 10 159) (fun s_ => [(11, .agg #[.int .i64 t400, .int .i64 t401]), (8, .pointer (some ⟨s_, 0, none⟩))]) (fun s_ w' => (w'.cell? ⟨gb398, 0, none⟩ = some (.int .i64 a0_0) ∧ w'.cell? ⟨gb398, 1, none⟩ = some (.int .i64 a0_1)) ∧ (w'.heap[gb398]? = some (.cells #[.int .i64 a0_0, .int .i64 a0_1] 23 (0, 0))) ∧ (w'.heap[gb399]? = some (.cells #[.int .i64 0, .int .i64 0] 23 (0, 0))) ∧ (w'.heap[s_]? = some (.cells #[.int .i64 0, .int .i64 0] 23 (0, 0))) ∧ (w.heap.size ≤ s_) ∧ (w.heap.size ≤ s_) ∧ (gb398 ≠ s_) ∧ (s_ ≠ gb398) ∧ (gb399 ≠ s_) ∧ (s_ ≠ gb399) ∧ (Below w.heap.size w w')) ?_ ?_
       rotate_left
       ·intro hJ2_7
        refine join_ (σ := Nat × Nat) 4 (ba 10 219) (fun s_ => [(7, .pointer (some ⟨s_.1, 0, none⟩)), (8, .pointer (some ⟨s_.2, 0, none⟩))]) (fun s_ w' => (w'.cell? ⟨gb398, 0, none⟩ = some (.int .i64 a0_0) ∧ w'.cell? ⟨gb398, 1, none⟩ = some (.int .i64 a0_1)) ∧ (w'.heap[gb398]? = some (.cells #[.int .i64 a0_0, .int .i64 a0_1] 23 (0, 0))) ∧ (w'.heap[gb399]? = some (.cells #[.int .i64 0, .int .i64 0] 23 (0, 0))) ∧ (w'.heap[s_.1]? = some (.cells #[.int .i64 0, .int .i64 0] 23 (0, 0))) ∧ (w'.heap[s_.2]? = some (.cells #[.int .i64 0, .int .i64 0] 23 (0, 0))) ∧ (w.heap.size ≤ s_.1) ∧ (w.heap.size ≤ s_.1) ∧ (gb398 ≠ s_.1) ∧ (s_.1 ≠ gb398) ∧ (gb399 ≠ s_.1) ∧ (s_.1 ≠ gb399) ∧ (s_.2 ≠ s_.1) ∧ (s_.1 ≠ s_.2) ∧ (w.heap.size ≤ s_.2) ∧ (w.heap.size ≤ s_.2) ∧ (gb398 ≠ s_.2) ∧ (s_.2 ≠ gb398) ∧ (gb399 ≠ s_.2) ∧ (s_.2 ≠ gb399) ∧ (Below w.heap.size w w')) ?_ ?_
        rotate_left
        ·intro hJ6_7
         refine join_ (σ := Unit) 5 (ba 10 31) (fun s_ => [(11, .agg #[.int .i64 t400, .int .i64 t401])]) (fun s_ w' => (w'.cell? ⟨gb398, 0, none⟩ = some (.int .i64 a0_0) ∧ w'.cell? ⟨gb398, 1, none⟩ = some (.int .i64 a0_1)) ∧ (w'.heap[gb398]? = some (.cells #[.int .i64 a0_0, .int .i64 a0_1] 23 (0, 0))) ∧ (w'.heap[gb399]? = some (.cells #[.int .i64 0, .int .i64 0] 23 (0, 0))) ∧ (Below w.heap.size w w')) ?_ ?_
         rotate_left
         ·intro hJ2
          refine join_ (σ := Nat) 5 (ba 10 91) (fun s_ => [(7, .pointer (some ⟨s_, 0, none⟩))]) (fun s_ w' => (w'.cell? ⟨gb398, 0, none⟩ = some (.int .i64 a0_0) ∧ w'.cell? ⟨gb398, 1, none⟩ = some (.int .i64 a0_1)) ∧ (w'.heap[gb398]? = some (.cells #[.int .i64 a0_0, .int .i64 a0_1] 23 (0, 0))) ∧ (w'.heap[gb399]? = some (.cells #[.int .i64 0, .int .i64 0] 23 (0, 0))) ∧ (w'.heap[s_]? = some (.cells #[.int .i64 0, .int .i64 0] 23 (0, 0))) ∧ (w.heap.size ≤ s_) ∧ (w.heap.size ≤ s_) ∧ (gb398 ≠ s_) ∧ (s_ ≠ gb398) ∧ (gb399 ≠ s_) ∧ (s_ ≠ gb399) ∧ (Below w.heap.size w w')) ?_ ?_
          rotate_left
          ·intro hJ6
           refine join_ (σ := Nat) 5 (ba 10 155) (fun s_ => [(8, .pointer (some ⟨s_, 0, none⟩))]) (fun s_ w' => (w'.cell? ⟨gb398, 0, none⟩ = some (.int .i64 a0_0) ∧ w'.cell? ⟨gb398, 1, none⟩ = some (.int .i64 a0_1)) ∧ (w'.heap[gb398]? = some (.cells #[.int .i64 a0_0, .int .i64 a0_1] 23 (0, 0))) ∧ (w'.heap[gb399]? = some (.cells #[.int .i64 0, .int .i64 0] 23 (0, 0))) ∧ (w'.heap[s_]? = some (.cells #[.int .i64 0, .int .i64 0] 23 (0, 0))) ∧ (w.heap.size ≤ s_) ∧ (w.heap.size ≤ s_) ∧ (gb398 ≠ s_) ∧ (s_ ≠ gb398) ∧ (gb399 ≠ s_) ∧ (s_ ≠ gb399) ∧ (Below w.heap.size w w')) ?_ ?_
           rotate_left
           ·intro hJ7
            refine three_ (i := 2) (j := 6) (k := 7) (Ni := some 11) (Nj := some 7) (Nk := some 8) (ba 10 31) (ba 10 91) (ba 10 155) rfl rfl rfl rfl rfl rfl (three_of HT_.out (by kernel_rfl)) (by decide) (by decide) (by decide) (fun K hK => ?_) (fun K hK => ?_) (fun K hK => ?_)
            ·skip
             refine gq Try.func66 #[.agg #[.int .i64 a0_0, .int .i64 a0_1], .int .i64 a2] ?_
             with_reducible refine (numnahref07_rest.calls k a0_0 a0_1 a2 t400 t401 _ A4.out).mono ?_
             rintro e w13 ⟨rfl, hb⟩
             refine ⟨_, rfl, ?_⟩
             replace BK398 := kB BK398 hb
             replace BK399 := kB BK399 hb
             replace HB := bB HB hb
             (try clear hb)
             (try clear hb2)
             (try clear hk)
             (try clear hi)
             refine hK.out _ _ ⟨cz BK398 0, cz BK398 1⟩ (fun hHeld => ?_)
             clear hK K
             refine nq 11 ?_
             exact norm_ (by simp only [putAll, pu0, la, lb, lc]) (hJ2 () _ ⟨hHeld, BK398.out, BK399.out, HB.out⟩)
            ·skip
             refine box_step ?hg (N := 7) ?hd (cs := #[.int .i64 0, .int .i64 0]) (t := 23) ?hr ?_; (case hd => rfl); (case hg => rfl); (case hr => first | (go_simp; done) | (go_simp; rfl))
             intro gb404 hg w13 hbox hb
             have BK404 := A_ hbox
             have GW404 := gw hg HB
             have GE404 := GW404
             have NB398_404 := nl hg BK398
             have NB404_398 := ng hg BK398
             have NB399_404 := nl hg BK399
             have NB404_399 := ng hg BK399
             replace BK398 := kB BK398 hb
             replace BK399 := kB BK399 hb
             replace HB := bB HB hb
             clear hb hbox hg
             refine hK.out _ _ ⟨cz BK398 0, cz BK398 1⟩ (fun hHeld => ?_)
             clear hK K
             refine nq 7 ?_
             exact norm_ (by simp only [putAll, pu0, la, lb, lc]) (hJ6 gb404 _ ⟨hHeld, BK398.out, BK399.out, BK404.out, GW404.out, GE404.out, NB398_404.out, NB404_398.out, NB399_404.out, NB404_399.out, HB.out⟩)
            ·skip
             refine box_step ?hg (N := 8) ?hd (cs := #[.int .i64 0, .int .i64 0]) (t := 23) ?hr ?_; (case hd => rfl); (case hg => rfl); (case hr => first | (go_simp; done) | (go_simp; rfl))
             intro gb405 hg w13 hbox hb
             have BK405 := A_ hbox
             have GW405 := gw hg HB
             have GE405 := GW405
             have NB398_405 := nl hg BK398
             have NB405_398 := ng hg BK398
             have NB399_405 := nl hg BK399
             have NB405_399 := ng hg BK399
             replace BK398 := kB BK398 hb
             replace BK399 := kB BK399 hb
             replace HB := bB HB hb
             clear hb hbox hg
             refine hK.out _ _ ⟨cz BK398 0, cz BK398 1⟩ (fun hHeld => ?_)
             clear hK K
             refine nq 8 ?_
             exact norm_ (by simp only [putAll, pu0, la, lb, lc]) (hJ7 gb405 _ ⟨hHeld, BK398.out, BK399.out, BK405.out, GW405.out, GE405.out, NB398_405.out, NB405_398.out, NB399_405.out, NB405_399.out, HB.out⟩)
           ·skip
            rintro gb405 w14 ⟨hS_, h0_, h1_, h2_, h3_, h4_, h5_, h6_, h7_, h8_, h9_⟩
            have n0_ : Aside0 (w14.heap[gb398]? = some (.cells #[.int .i64 a0_0, .int .i64 a0_1] 23 (0, 0))) := ⟨h0_⟩
            have n1_ : Aside0 (w14.heap[gb399]? = some (.cells #[.int .i64 0, .int .i64 0] 23 (0, 0))) := ⟨h1_⟩
            have n2_ : Aside0 (w14.heap[gb405]? = some (.cells #[.int .i64 0, .int .i64 0] 23 (0, 0))) := ⟨h2_⟩
            have n3_ : Aside0 (w.heap.size ≤ gb405) := ⟨h3_⟩
            have n4_ : Aside0 (w.heap.size ≤ gb405) := ⟨h4_⟩
            have n5_ : Aside0 (gb398 ≠ gb405) := ⟨h5_⟩
            have n6_ : Aside0 (gb405 ≠ gb398) := ⟨h6_⟩
            have n7_ : Aside0 (gb399 ≠ gb405) := ⟨h7_⟩
            have n8_ : Aside0 (gb405 ≠ gb399) := ⟨h8_⟩
            have n9_ : Aside0 (Below w.heap.size w w14) := ⟨h9_⟩
            clear BK398 BK399 HB h0_ h1_ h2_ h3_ h4_ h5_ h6_ h7_ h8_ h9_
            have BK398 := n0_
            have BK399 := n1_
            have BK405 := n2_
            have GW405 := n3_
            have GE405 := n4_
            have NB398_405 := n5_
            have NB405_398 := n6_
            have NB399_405 := n7_
            have NB405_399 := n8_
            have HB := n9_
            clear n0_ n1_ n2_ n3_ n4_ n5_ n6_ n7_ n8_ n9_
            have hHeld : w14.cell? ⟨gb398, 0, none⟩ = some (.int .i64 a0_0) ∧ w14.cell? ⟨gb398, 1, none⟩ = some (.int .i64 a0_1) := hS_
            refine norm_ (a' := ?_) ?_ ?_
            rotate_left
            ·simp only [putAll, Act.put, List.setIfInBounds_toArray, List.set_cons_zero, List.set_cons_succ]
             rfl
            refine two_ (i := 2) (j := 6) (Ni := some 11) (Nj := some 7) (ba 10 159) (ba 10 219) rfl rfl rfl rfl (two_of HT_.out (by kernel_rfl)) (by decide) (by decide) (fun K hK => ?_) (fun K hK => ?_)
            ·skip
             refine gq Try.func66 #[.agg #[.int .i64 a0_0, .int .i64 a0_1], .int .i64 a2] ?_
             with_reducible refine (numnahref07_rest.calls k a0_0 a0_1 a2 t400 t401 _ A4.out).mono ?_
             rintro e w15 ⟨rfl, hb⟩
             refine ⟨_, rfl, ?_⟩
             replace BK398 := kB BK398 hb
             replace BK399 := kB BK399 hb
             replace BK405 := kB BK405 hb
             replace HB := bB HB hb
             (try clear hb)
             (try clear hb2)
             (try clear hk)
             (try clear hi)
             refine hK.out _ _ ⟨cz BK398 0, cz BK398 1⟩ (fun hHeld => ?_)
             clear hK K
             refine nq 11 ?_
             exact norm_ (by simp only [putAll, pu0, la, lb, lc]) (hJ2_7 gb405 _ ⟨hHeld, BK398.out, BK399.out, BK405.out, GW405.out, GE405.out, NB398_405.out, NB405_398.out, NB399_405.out, NB405_399.out, HB.out⟩)
            ·skip
             refine box_step ?hg (N := 7) ?hd (cs := #[.int .i64 0, .int .i64 0]) (t := 23) ?hr ?_; (case hd => rfl); (case hg => rfl); (case hr => first | (go_simp; done) | (go_simp; rfl))
             intro gb404 hg w15 hbox hb
             have BK404 := A_ hbox
             have GW404 := gw hg HB
             have GE404 := GW404
             have NB398_404 := nl hg BK398
             have NB404_398 := ng hg BK398
             have NB399_404 := nl hg BK399
             have NB404_399 := ng hg BK399
             have NB405_404 := nl hg BK405
             have NB404_405 := ng hg BK405
             replace BK398 := kB BK398 hb
             replace BK399 := kB BK399 hb
             replace BK405 := kB BK405 hb
             replace HB := bB HB hb
             clear hb hbox hg
             refine hK.out _ _ ⟨cz BK398 0, cz BK398 1⟩ (fun hHeld => ?_)
             clear hK K
             refine nq 7 ?_
             exact norm_ (by simp only [putAll, pu0, la, lb, lc]) (hJ6_7 (gb404, gb405) _ ⟨hHeld, BK398.out, BK399.out, BK404.out, BK405.out, GW404.out, GE404.out, NB398_404.out, NB404_398.out, NB399_404.out, NB404_399.out, NB405_404.out, NB404_405.out, GW405.out, GE405.out, NB398_405.out, NB405_398.out, NB399_405.out, NB405_399.out, HB.out⟩)
          ·skip
           rintro gb404 w14 ⟨hS_, h0_, h1_, h2_, h3_, h4_, h5_, h6_, h7_, h8_, h9_⟩
           have n0_ : Aside0 (w14.heap[gb398]? = some (.cells #[.int .i64 a0_0, .int .i64 a0_1] 23 (0, 0))) := ⟨h0_⟩
           have n1_ : Aside0 (w14.heap[gb399]? = some (.cells #[.int .i64 0, .int .i64 0] 23 (0, 0))) := ⟨h1_⟩
           have n2_ : Aside0 (w14.heap[gb404]? = some (.cells #[.int .i64 0, .int .i64 0] 23 (0, 0))) := ⟨h2_⟩
           have n3_ : Aside0 (w.heap.size ≤ gb404) := ⟨h3_⟩
           have n4_ : Aside0 (w.heap.size ≤ gb404) := ⟨h4_⟩
           have n5_ : Aside0 (gb398 ≠ gb404) := ⟨h5_⟩
           have n6_ : Aside0 (gb404 ≠ gb398) := ⟨h6_⟩
           have n7_ : Aside0 (gb399 ≠ gb404) := ⟨h7_⟩
           have n8_ : Aside0 (gb404 ≠ gb399) := ⟨h8_⟩
           have n9_ : Aside0 (Below w.heap.size w w14) := ⟨h9_⟩
           clear BK398 BK399 HB h0_ h1_ h2_ h3_ h4_ h5_ h6_ h7_ h8_ h9_
           have BK398 := n0_
           have BK399 := n1_
           have BK404 := n2_
           have GW404 := n3_
           have GE404 := n4_
           have NB398_404 := n5_
           have NB404_398 := n6_
           have NB399_404 := n7_
           have NB404_399 := n8_
           have HB := n9_
           clear n0_ n1_ n2_ n3_ n4_ n5_ n6_ n7_ n8_ n9_
           have hHeld : w14.cell? ⟨gb398, 0, none⟩ = some (.int .i64 a0_0) ∧ w14.cell? ⟨gb398, 1, none⟩ = some (.int .i64 a0_1) := hS_
           refine norm_ (a' := ?_) ?_ ?_
           rotate_left
           ·simp only [putAll, Act.put, List.setIfInBounds_toArray, List.set_cons_zero, List.set_cons_succ]
            rfl
           refine two_ (i := 2) (j := 7) (Ni := some 11) (Nj := some 8) (ba 10 95) (ba 10 219) rfl rfl rfl rfl (two_of HT_.out (by kernel_rfl)) (by decide) (by decide) (fun K hK => ?_) (fun K hK => ?_)
           ·skip
            refine gq Try.func66 #[.agg #[.int .i64 a0_0, .int .i64 a0_1], .int .i64 a2] ?_
            with_reducible refine (numnahref07_rest.calls k a0_0 a0_1 a2 t400 t401 _ A4.out).mono ?_
            rintro e w15 ⟨rfl, hb⟩
            refine ⟨_, rfl, ?_⟩
            replace BK398 := kB BK398 hb
            replace BK399 := kB BK399 hb
            replace BK404 := kB BK404 hb
            replace HB := bB HB hb
            (try clear hb)
            (try clear hb2)
            (try clear hk)
            (try clear hi)
            refine hK.out _ _ ⟨cz BK398 0, cz BK398 1⟩ (fun hHeld => ?_)
            clear hK K
            refine nq 11 ?_
            exact norm_ (by simp only [putAll, pu0, la, lb, lc]) (hJ2_6 gb404 _ ⟨hHeld, BK398.out, BK399.out, BK404.out, GW404.out, GE404.out, NB398_404.out, NB404_398.out, NB399_404.out, NB404_399.out, HB.out⟩)
           ·skip
            refine box_step ?hg (N := 8) ?hd (cs := #[.int .i64 0, .int .i64 0]) (t := 23) ?hr ?_; (case hd => rfl); (case hg => rfl); (case hr => first | (go_simp; done) | (go_simp; rfl))
            intro gb405 hg w15 hbox hb
            have BK405 := A_ hbox
            have GW405 := gw hg HB
            have GE405 := GW405
            have NB398_405 := nl hg BK398
            have NB405_398 := ng hg BK398
            have NB399_405 := nl hg BK399
            have NB405_399 := ng hg BK399
            have NB404_405 := nl hg BK404
            have NB405_404 := ng hg BK404
            replace BK398 := kB BK398 hb
            replace BK399 := kB BK399 hb
            replace BK404 := kB BK404 hb
            replace HB := bB HB hb
            clear hb hbox hg
            refine hK.out _ _ ⟨cz BK398 0, cz BK398 1⟩ (fun hHeld => ?_)
            clear hK K
            refine nq 8 ?_
            exact norm_ (by simp only [putAll, pu0, la, lb, lc]) (hJ6_7 (gb404, gb405) _ ⟨hHeld, BK398.out, BK399.out, BK404.out, BK405.out, GW404.out, GE404.out, NB398_404.out, NB404_398.out, NB399_404.out, NB404_399.out, NB405_404.out, NB404_405.out, GW405.out, GE405.out, NB398_405.out, NB405_398.out, NB399_405.out, NB405_399.out, HB.out⟩)
         ·skip
          rintro _ w14 ⟨hS_, h0_, h1_, h2_⟩
          have n0_ : Aside0 (w14.heap[gb398]? = some (.cells #[.int .i64 a0_0, .int .i64 a0_1] 23 (0, 0))) := ⟨h0_⟩
          have n1_ : Aside0 (w14.heap[gb399]? = some (.cells #[.int .i64 0, .int .i64 0] 23 (0, 0))) := ⟨h1_⟩
          have n2_ : Aside0 (Below w.heap.size w w14) := ⟨h2_⟩
          clear BK398 BK399 HB h0_ h1_ h2_
          have BK398 := n0_
          have BK399 := n1_
          have HB := n2_
          clear n0_ n1_ n2_
          have hHeld : w14.cell? ⟨gb398, 0, none⟩ = some (.int .i64 a0_0) ∧ w14.cell? ⟨gb398, 1, none⟩ = some (.int .i64 a0_1) := hS_
          refine norm_ (a' := ?_) ?_ ?_
          rotate_left
          ·simp only [putAll, Act.put, List.setIfInBounds_toArray, List.set_cons_zero, List.set_cons_succ]
           rfl
          refine three_ (i := 5) (j := 6) (k := 7) (Ni := some 14) (Nj := some 7) (Nk := some 8) (ba 10 63) (ba 10 95) (ba 10 159) rfl rfl rfl rfl rfl rfl (three_of HT_.out (by kernel_rfl)) (by decide) (by decide) (by decide) (fun K hK => ?_) (fun K hK => ?_) (fun K hK => ?_)
          ·skip
           refine gq Try.func66 #[.agg #[.int .i64 a0_0, .int .i64 a0_1], .int .i64 a1] ?_
           with_reducible refine (numnahref07_rest.calls k a0_0 a0_1 a1 t402 t403 _ A5.out).mono ?_
           rintro e w15 ⟨rfl, hb⟩
           refine ⟨_, rfl, ?_⟩
           replace BK398 := kB BK398 hb
           replace BK399 := kB BK399 hb
           replace HB := bB HB hb
           (try clear hb)
           (try clear hb2)
           (try clear hk)
           (try clear hi)
           refine hK.out _ _ ⟨cz BK398 0, cz BK398 1⟩ (fun hHeld => ?_)
           clear hK K
           refine nq 14 ?_
           exact norm_ (by simp only [putAll, pu0, la, lb, lc]) (hJ2_5 () _ ⟨hHeld, BK398.out, BK399.out, HB.out⟩)
          ·skip
           refine box_step ?hg (N := 7) ?hd (cs := #[.int .i64 0, .int .i64 0]) (t := 23) ?hr ?_; (case hd => rfl); (case hg => rfl); (case hr => first | (go_simp; done) | (go_simp; rfl))
           intro gb404 hg w15 hbox hb
           have BK404 := A_ hbox
           have GW404 := gw hg HB
           have GE404 := GW404
           have NB398_404 := nl hg BK398
           have NB404_398 := ng hg BK398
           have NB399_404 := nl hg BK399
           have NB404_399 := ng hg BK399
           replace BK398 := kB BK398 hb
           replace BK399 := kB BK399 hb
           replace HB := bB HB hb
           clear hb hbox hg
           refine hK.out _ _ ⟨cz BK398 0, cz BK398 1⟩ (fun hHeld => ?_)
           clear hK K
           refine nq 7 ?_
           exact norm_ (by simp only [putAll, pu0, la, lb, lc]) (hJ2_6 gb404 _ ⟨hHeld, BK398.out, BK399.out, BK404.out, GW404.out, GE404.out, NB398_404.out, NB404_398.out, NB399_404.out, NB404_399.out, HB.out⟩)
          ·skip
           refine box_step ?hg (N := 8) ?hd (cs := #[.int .i64 0, .int .i64 0]) (t := 23) ?hr ?_; (case hd => rfl); (case hg => rfl); (case hr => first | (go_simp; done) | (go_simp; rfl))
           intro gb405 hg w15 hbox hb
           have BK405 := A_ hbox
           have GW405 := gw hg HB
           have GE405 := GW405
           have NB398_405 := nl hg BK398
           have NB405_398 := ng hg BK398
           have NB399_405 := nl hg BK399
           have NB405_399 := ng hg BK399
           replace BK398 := kB BK398 hb
           replace BK399 := kB BK399 hb
           replace HB := bB HB hb
           clear hb hbox hg
           refine hK.out _ _ ⟨cz BK398 0, cz BK398 1⟩ (fun hHeld => ?_)
           clear hK K
           refine nq 8 ?_
           exact norm_ (by simp only [putAll, pu0, la, lb, lc]) (hJ2_7 gb405 _ ⟨hHeld, BK398.out, BK399.out, BK405.out, GW405.out, GE405.out, NB398_405.out, NB405_398.out, NB399_405.out, NB405_399.out, HB.out⟩)
        ·skip
         rintro ⟨gb404, gb405⟩ w15 ⟨hS_, h0_, h1_, h2_, h3_, h4_, h5_, h6_, h7_, h8_, h9_, h10_, h11_, h12_, h13_, h14_, h15_, h16_, h17_, h18_⟩
         have n0_ : Aside0 (w15.heap[gb398]? = some (.cells #[.int .i64 a0_0, .int .i64 a0_1] 23 (0, 0))) := ⟨h0_⟩
         have n1_ : Aside0 (w15.heap[gb399]? = some (.cells #[.int .i64 0, .int .i64 0] 23 (0, 0))) := ⟨h1_⟩
         have n2_ : Aside0 (w15.heap[gb404]? = some (.cells #[.int .i64 0, .int .i64 0] 23 (0, 0))) := ⟨h2_⟩
         have n3_ : Aside0 (w15.heap[gb405]? = some (.cells #[.int .i64 0, .int .i64 0] 23 (0, 0))) := ⟨h3_⟩
         have n4_ : Aside0 (w.heap.size ≤ gb404) := ⟨h4_⟩
         have n5_ : Aside0 (w.heap.size ≤ gb404) := ⟨h5_⟩
         have n6_ : Aside0 (gb398 ≠ gb404) := ⟨h6_⟩
         have n7_ : Aside0 (gb404 ≠ gb398) := ⟨h7_⟩
         have n8_ : Aside0 (gb399 ≠ gb404) := ⟨h8_⟩
         have n9_ : Aside0 (gb404 ≠ gb399) := ⟨h9_⟩
         have n10_ : Aside0 (gb405 ≠ gb404) := ⟨h10_⟩
         have n11_ : Aside0 (gb404 ≠ gb405) := ⟨h11_⟩
         have n12_ : Aside0 (w.heap.size ≤ gb405) := ⟨h12_⟩
         have n13_ : Aside0 (w.heap.size ≤ gb405) := ⟨h13_⟩
         have n14_ : Aside0 (gb398 ≠ gb405) := ⟨h14_⟩
         have n15_ : Aside0 (gb405 ≠ gb398) := ⟨h15_⟩
         have n16_ : Aside0 (gb399 ≠ gb405) := ⟨h16_⟩
         have n17_ : Aside0 (gb405 ≠ gb399) := ⟨h17_⟩
         have n18_ : Aside0 (Below w.heap.size w w15) := ⟨h18_⟩
         clear BK398 BK399 HB h0_ h1_ h2_ h3_ h4_ h5_ h6_ h7_ h8_ h9_ h10_ h11_ h12_ h13_ h14_ h15_ h16_ h17_ h18_
         have BK398 := n0_
         have BK399 := n1_
         have BK404 := n2_
         have BK405 := n3_
         have GW404 := n4_
         have GE404 := n5_
         have NB398_404 := n6_
         have NB404_398 := n7_
         have NB399_404 := n8_
         have NB404_399 := n9_
         have NB405_404 := n10_
         have NB404_405 := n11_
         have GW405 := n12_
         have GE405 := n13_
         have NB398_405 := n14_
         have NB405_398 := n15_
         have NB399_405 := n16_
         have NB405_399 := n17_
         have HB := n18_
         clear n0_ n1_ n2_ n3_ n4_ n5_ n6_ n7_ n8_ n9_ n10_ n11_ n12_ n13_ n14_ n15_ n16_ n17_ n18_
         have hHeld : w15.cell? ⟨gb398, 0, none⟩ = some (.int .i64 a0_0) ∧ w15.cell? ⟨gb398, 1, none⟩ = some (.int .i64 a0_1) := hS_
         refine norm_ (a' := ?_) ?_ ?_
         rotate_left
         ·simp only [putAll, Act.put, List.setIfInBounds_toArray, List.set_cons_zero, List.set_cons_succ]
          rfl
         refine oq 2 11 223 HT_ (fun K hK => ?_)
         refine gq Try.func66 #[.agg #[.int .i64 a0_0, .int .i64 a0_1], .int .i64 a2] ?_
         with_reducible refine (numnahref07_rest.calls k a0_0 a0_1 a2 t400 t401 _ A4.out).mono ?_
         rintro e w16 ⟨rfl, hb⟩
         refine ⟨_, rfl, ?_⟩
         replace BK398 := kB BK398 hb
         replace BK399 := kB BK399 hb
         replace BK404 := kB BK404 hb
         replace BK405 := kB BK405 hb
         replace HB := bB HB hb
         (try clear hb)
         (try clear hb2)
         (try clear hk)
         (try clear hi)
         refine hK.out _ _ ⟨cz BK398 0, cz BK398 1⟩ (fun hHeld => ?_)
         clear hK K
         refine nq 11 ?_
         exact norm_ (by simp only [putAll, pu0, la, lb, lc]) (hJ2_6_7 (gb404, gb405) _ ⟨hHeld, BK398.out, BK399.out, BK404.out, BK405.out, GW404.out, GE404.out, NB398_404.out, NB404_398.out, NB399_404.out, NB404_399.out, NB405_404.out, NB404_405.out, GW405.out, GE405.out, NB398_405.out, NB405_398.out, NB399_405.out, NB405_399.out, HB.out⟩)
       ·skip
        rintro gb405 w15 ⟨hS_, h0_, h1_, h2_, h3_, h4_, h5_, h6_, h7_, h8_, h9_⟩
        have n0_ : Aside0 (w15.heap[gb398]? = some (.cells #[.int .i64 a0_0, .int .i64 a0_1] 23 (0, 0))) := ⟨h0_⟩
        have n1_ : Aside0 (w15.heap[gb399]? = some (.cells #[.int .i64 0, .int .i64 0] 23 (0, 0))) := ⟨h1_⟩
        have n2_ : Aside0 (w15.heap[gb405]? = some (.cells #[.int .i64 0, .int .i64 0] 23 (0, 0))) := ⟨h2_⟩
        have n3_ : Aside0 (w.heap.size ≤ gb405) := ⟨h3_⟩
        have n4_ : Aside0 (w.heap.size ≤ gb405) := ⟨h4_⟩
        have n5_ : Aside0 (gb398 ≠ gb405) := ⟨h5_⟩
        have n6_ : Aside0 (gb405 ≠ gb398) := ⟨h6_⟩
        have n7_ : Aside0 (gb399 ≠ gb405) := ⟨h7_⟩
        have n8_ : Aside0 (gb405 ≠ gb399) := ⟨h8_⟩
        have n9_ : Aside0 (Below w.heap.size w w15) := ⟨h9_⟩
        clear BK398 BK399 HB h0_ h1_ h2_ h3_ h4_ h5_ h6_ h7_ h8_ h9_
        have BK398 := n0_
        have BK399 := n1_
        have BK405 := n2_
        have GW405 := n3_
        have GE405 := n4_
        have NB398_405 := n5_
        have NB405_398 := n6_
        have NB399_405 := n7_
        have NB405_399 := n8_
        have HB := n9_
        clear n0_ n1_ n2_ n3_ n4_ n5_ n6_ n7_ n8_ n9_
        have hHeld : w15.cell? ⟨gb398, 0, none⟩ = some (.int .i64 a0_0) ∧ w15.cell? ⟨gb398, 1, none⟩ = some (.int .i64 a0_1) := hS_
        refine norm_ (a' := ?_) ?_ ?_
        rotate_left
        ·simp only [putAll, Act.put, List.setIfInBounds_toArray, List.set_cons_zero, List.set_cons_succ]
         rfl
        refine two_ (i := 5) (j := 6) (Ni := some 14) (Nj := some 7) (ba 10 191) (ba 10 223) rfl rfl rfl rfl (two_of HT_.out (by kernel_rfl)) (by decide) (by decide) (fun K hK => ?_) (fun K hK => ?_)
        ·skip
         refine gq Try.func66 #[.agg #[.int .i64 a0_0, .int .i64 a0_1], .int .i64 a1] ?_
         with_reducible refine (numnahref07_rest.calls k a0_0 a0_1 a1 t402 t403 _ A5.out).mono ?_
         rintro e w16 ⟨rfl, hb⟩
         refine ⟨_, rfl, ?_⟩
         replace BK398 := kB BK398 hb
         replace BK399 := kB BK399 hb
         replace BK405 := kB BK405 hb
         replace HB := bB HB hb
         (try clear hb)
         (try clear hb2)
         (try clear hk)
         (try clear hi)
         refine hK.out _ _ ⟨cz BK398 0, cz BK398 1⟩ (fun hHeld => ?_)
         clear hK K
         refine nq 14 ?_
         exact norm_ (by simp only [putAll, pu0, la, lb, lc]) (hJ2_5_7 gb405 _ ⟨hHeld, BK398.out, BK399.out, BK405.out, GW405.out, GE405.out, NB398_405.out, NB405_398.out, NB399_405.out, NB405_399.out, HB.out⟩)
        ·skip
         refine box_step ?hg (N := 7) ?hd (cs := #[.int .i64 0, .int .i64 0]) (t := 23) ?hr ?_; (case hd => rfl); (case hg => rfl); (case hr => first | (go_simp; done) | (go_simp; rfl))
         intro gb404 hg w16 hbox hb
         have BK404 := A_ hbox
         have GW404 := gw hg HB
         have GE404 := GW404
         have NB398_404 := nl hg BK398
         have NB404_398 := ng hg BK398
         have NB399_404 := nl hg BK399
         have NB404_399 := ng hg BK399
         have NB405_404 := nl hg BK405
         have NB404_405 := ng hg BK405
         replace BK398 := kB BK398 hb
         replace BK399 := kB BK399 hb
         replace BK405 := kB BK405 hb
         replace HB := bB HB hb
         clear hb hbox hg
         refine hK.out _ _ ⟨cz BK398 0, cz BK398 1⟩ (fun hHeld => ?_)
         clear hK K
         refine nq 7 ?_
         exact norm_ (by simp only [putAll, pu0, la, lb, lc]) (hJ2_6_7 (gb404, gb405) _ ⟨hHeld, BK398.out, BK399.out, BK404.out, BK405.out, GW404.out, GE404.out, NB398_404.out, NB404_398.out, NB399_404.out, NB404_399.out, NB405_404.out, NB404_405.out, GW405.out, GE405.out, NB398_405.out, NB405_398.out, NB399_405.out, NB405_399.out, HB.out⟩)
      ·skip
       rintro gb404 w15 ⟨hS_, h0_, h1_, h2_, h3_, h4_, h5_, h6_, h7_, h8_, h9_⟩
       have n0_ : Aside0 (w15.heap[gb398]? = some (.cells #[.int .i64 a0_0, .int .i64 a0_1] 23 (0, 0))) := ⟨h0_⟩
       have n1_ : Aside0 (w15.heap[gb399]? = some (.cells #[.int .i64 0, .int .i64 0] 23 (0, 0))) := ⟨h1_⟩
       have n2_ : Aside0 (w15.heap[gb404]? = some (.cells #[.int .i64 0, .int .i64 0] 23 (0, 0))) := ⟨h2_⟩
       have n3_ : Aside0 (w.heap.size ≤ gb404) := ⟨h3_⟩
       have n4_ : Aside0 (w.heap.size ≤ gb404) := ⟨h4_⟩
       have n5_ : Aside0 (gb398 ≠ gb404) := ⟨h5_⟩
       have n6_ : Aside0 (gb404 ≠ gb398) := ⟨h6_⟩
       have n7_ : Aside0 (gb399 ≠ gb404) := ⟨h7_⟩
       have n8_ : Aside0 (gb404 ≠ gb399) := ⟨h8_⟩
       have n9_ : Aside0 (Below w.heap.size w w15) := ⟨h9_⟩
       clear BK398 BK399 HB h0_ h1_ h2_ h3_ h4_ h5_ h6_ h7_ h8_ h9_
       have BK398 := n0_
       have BK399 := n1_
       have BK404 := n2_
       have GW404 := n3_
       have GE404 := n4_
       have NB398_404 := n5_
       have NB404_398 := n6_
       have NB399_404 := n7_
       have NB404_399 := n8_
       have HB := n9_
       clear n0_ n1_ n2_ n3_ n4_ n5_ n6_ n7_ n8_ n9_
       have hHeld : w15.cell? ⟨gb398, 0, none⟩ = some (.int .i64 a0_0) ∧ w15.cell? ⟨gb398, 1, none⟩ = some (.int .i64 a0_1) := hS_
       refine norm_ (a' := ?_) ?_ ?_
       rotate_left
       ·simp only [putAll, Act.put, List.setIfInBounds_toArray, List.set_cons_zero, List.set_cons_succ]
        rfl
       refine two_ (i := 5) (j := 7) (Ni := some 14) (Nj := some 8) (ba 10 127) (ba 10 223) rfl rfl rfl rfl (two_of HT_.out (by kernel_rfl)) (by decide) (by decide) (fun K hK => ?_) (fun K hK => ?_)
       ·skip
        refine gq Try.func66 #[.agg #[.int .i64 a0_0, .int .i64 a0_1], .int .i64 a1] ?_
        with_reducible refine (numnahref07_rest.calls k a0_0 a0_1 a1 t402 t403 _ A5.out).mono ?_
        rintro e w16 ⟨rfl, hb⟩
        refine ⟨_, rfl, ?_⟩
        replace BK398 := kB BK398 hb
        replace BK399 := kB BK399 hb
        replace BK404 := kB BK404 hb
        replace HB := bB HB hb
        (try clear hb)
        (try clear hb2)
        (try clear hk)
        (try clear hi)
        refine hK.out _ _ ⟨cz BK398 0, cz BK398 1⟩ (fun hHeld => ?_)
        clear hK K
        refine nq 14 ?_
        exact norm_ (by simp only [putAll, pu0, la, lb, lc]) (hJ2_5_6 gb404 _ ⟨hHeld, BK398.out, BK399.out, BK404.out, GW404.out, GE404.out, NB398_404.out, NB404_398.out, NB399_404.out, NB404_399.out, HB.out⟩)
       ·skip
        refine box_step ?hg (N := 8) ?hd (cs := #[.int .i64 0, .int .i64 0]) (t := 23) ?hr ?_; (case hd => rfl); (case hg => rfl); (case hr => first | (go_simp; done) | (go_simp; rfl))
        intro gb405 hg w16 hbox hb
        have BK405 := A_ hbox
        have GW405 := gw hg HB
        have GE405 := GW405
        have NB398_405 := nl hg BK398
        have NB405_398 := ng hg BK398
        have NB399_405 := nl hg BK399
        have NB405_399 := ng hg BK399
        have NB404_405 := nl hg BK404
        have NB405_404 := ng hg BK404
        replace BK398 := kB BK398 hb
        replace BK399 := kB BK399 hb
        replace BK404 := kB BK404 hb
        replace HB := bB HB hb
        clear hb hbox hg
        refine hK.out _ _ ⟨cz BK398 0, cz BK398 1⟩ (fun hHeld => ?_)
        clear hK K
        refine nq 8 ?_
        exact norm_ (by simp only [putAll, pu0, la, lb, lc]) (hJ2_6_7 (gb404, gb405) _ ⟨hHeld, BK398.out, BK399.out, BK404.out, BK405.out, GW404.out, GE404.out, NB398_404.out, NB404_398.out, NB399_404.out, NB404_399.out, NB405_404.out, NB404_405.out, GW405.out, GE405.out, NB398_405.out, NB405_398.out, NB399_405.out, NB405_399.out, HB.out⟩)
     ·skip
      rintro _ w15 ⟨hS_, h0_, h1_, h2_⟩
      have n0_ : Aside0 (w15.heap[gb398]? = some (.cells #[.int .i64 a0_0, .int .i64 a0_1] 23 (0, 0))) := ⟨h0_⟩
      have n1_ : Aside0 (w15.heap[gb399]? = some (.cells #[.int .i64 0, .int .i64 0] 23 (0, 0))) := ⟨h1_⟩
      have n2_ : Aside0 (Below w.heap.size w w15) := ⟨h2_⟩
      clear BK398 BK399 HB h0_ h1_ h2_
      have BK398 := n0_
      have BK399 := n1_
      have HB := n2_
      clear n0_ n1_ n2_
      have hHeld : w15.cell? ⟨gb398, 0, none⟩ = some (.int .i64 a0_0) ∧ w15.cell? ⟨gb398, 1, none⟩ = some (.int .i64 a0_1) := hS_
      refine norm_ (a' := ?_) ?_ ?_
      rotate_left
      ·simp only [putAll, Act.put, List.setIfInBounds_toArray, List.set_cons_zero, List.set_cons_succ]
       rfl
      refine two_ (i := 6) (j := 7) (Ni := some 7) (Nj := some 8) (ba 10 127) (ba 10 191) rfl rfl rfl rfl (two_of HT_.out (by kernel_rfl)) (by decide) (by decide) (fun K hK => ?_) (fun K hK => ?_)
      ·skip
       refine box_step ?hg (N := 7) ?hd (cs := #[.int .i64 0, .int .i64 0]) (t := 23) ?hr ?_; (case hd => rfl); (case hg => rfl); (case hr => first | (go_simp; done) | (go_simp; rfl))
       intro gb404 hg w16 hbox hb
       have BK404 := A_ hbox
       have GW404 := gw hg HB
       have GE404 := GW404
       have NB398_404 := nl hg BK398
       have NB404_398 := ng hg BK398
       have NB399_404 := nl hg BK399
       have NB404_399 := ng hg BK399
       replace BK398 := kB BK398 hb
       replace BK399 := kB BK399 hb
       replace HB := bB HB hb
       clear hb hbox hg
       refine hK.out _ _ ⟨cz BK398 0, cz BK398 1⟩ (fun hHeld => ?_)
       clear hK K
       refine nq 7 ?_
       exact norm_ (by simp only [putAll, pu0, la, lb, lc]) (hJ2_5_6 gb404 _ ⟨hHeld, BK398.out, BK399.out, BK404.out, GW404.out, GE404.out, NB398_404.out, NB404_398.out, NB399_404.out, NB404_399.out, HB.out⟩)
      ·skip
       refine box_step ?hg (N := 8) ?hd (cs := #[.int .i64 0, .int .i64 0]) (t := 23) ?hr ?_; (case hd => rfl); (case hg => rfl); (case hr => first | (go_simp; done) | (go_simp; rfl))
       intro gb405 hg w16 hbox hb
       have BK405 := A_ hbox
       have GW405 := gw hg HB
       have GE405 := GW405
       have NB398_405 := nl hg BK398
       have NB405_398 := ng hg BK398
       have NB399_405 := nl hg BK399
       have NB405_399 := ng hg BK399
       replace BK398 := kB BK398 hb
       replace BK399 := kB BK399 hb
       replace HB := bB HB hb
       clear hb hbox hg
       refine hK.out _ _ ⟨cz BK398 0, cz BK398 1⟩ (fun hHeld => ?_)
       clear hK K
       refine nq 8 ?_
       exact norm_ (by simp only [putAll, pu0, la, lb, lc]) (hJ2_5_7 gb405 _ ⟨hHeld, BK398.out, BK399.out, BK405.out, GW405.out, GE405.out, NB398_405.out, NB405_398.out, NB399_405.out, NB405_399.out, HB.out⟩)
    ·skip
     rintro ⟨gb404, gb405⟩ w16 ⟨hS_, h0_, h1_, h2_, h3_, h4_, h5_, h6_, h7_, h8_, h9_, h10_, h11_, h12_, h13_, h14_, h15_, h16_, h17_, h18_⟩
     have n0_ : Aside0 (w16.heap[gb398]? = some (.cells #[.int .i64 a0_0, .int .i64 a0_1] 23 (0, 0))) := ⟨h0_⟩
     have n1_ : Aside0 (w16.heap[gb399]? = some (.cells #[.int .i64 0, .int .i64 0] 23 (0, 0))) := ⟨h1_⟩
     have n2_ : Aside0 (w16.heap[gb404]? = some (.cells #[.int .i64 0, .int .i64 0] 23 (0, 0))) := ⟨h2_⟩
     have n3_ : Aside0 (w16.heap[gb405]? = some (.cells #[.int .i64 0, .int .i64 0] 23 (0, 0))) := ⟨h3_⟩
     have n4_ : Aside0 (w.heap.size ≤ gb404) := ⟨h4_⟩
     have n5_ : Aside0 (w.heap.size ≤ gb404) := ⟨h5_⟩
     have n6_ : Aside0 (gb398 ≠ gb404) := ⟨h6_⟩
     have n7_ : Aside0 (gb404 ≠ gb398) := ⟨h7_⟩
     have n8_ : Aside0 (gb399 ≠ gb404) := ⟨h8_⟩
     have n9_ : Aside0 (gb404 ≠ gb399) := ⟨h9_⟩
     have n10_ : Aside0 (gb405 ≠ gb404) := ⟨h10_⟩
     have n11_ : Aside0 (gb404 ≠ gb405) := ⟨h11_⟩
     have n12_ : Aside0 (w.heap.size ≤ gb405) := ⟨h12_⟩
     have n13_ : Aside0 (w.heap.size ≤ gb405) := ⟨h13_⟩
     have n14_ : Aside0 (gb398 ≠ gb405) := ⟨h14_⟩
     have n15_ : Aside0 (gb405 ≠ gb398) := ⟨h15_⟩
     have n16_ : Aside0 (gb399 ≠ gb405) := ⟨h16_⟩
     have n17_ : Aside0 (gb405 ≠ gb399) := ⟨h17_⟩
     have n18_ : Aside0 (Below w.heap.size w w16) := ⟨h18_⟩
     clear BK398 BK399 HB h0_ h1_ h2_ h3_ h4_ h5_ h6_ h7_ h8_ h9_ h10_ h11_ h12_ h13_ h14_ h15_ h16_ h17_ h18_
     have BK398 := n0_
     have BK399 := n1_
     have BK404 := n2_
     have BK405 := n3_
     have GW404 := n4_
     have GE404 := n5_
     have NB398_404 := n6_
     have NB404_398 := n7_
     have NB399_404 := n8_
     have NB404_399 := n9_
     have NB405_404 := n10_
     have NB404_405 := n11_
     have GW405 := n12_
     have GE405 := n13_
     have NB398_405 := n14_
     have NB405_398 := n15_
     have NB399_405 := n16_
     have NB405_399 := n17_
     have HB := n18_
     clear n0_ n1_ n2_ n3_ n4_ n5_ n6_ n7_ n8_ n9_ n10_ n11_ n12_ n13_ n14_ n15_ n16_ n17_ n18_
     have hHeld : w16.cell? ⟨gb398, 0, none⟩ = some (.int .i64 a0_0) ∧ w16.cell? ⟨gb398, 1, none⟩ = some (.int .i64 a0_1) := hS_
     refine norm_ (a' := ?_) ?_ ?_
     rotate_left
     ·simp only [putAll, Act.put, List.setIfInBounds_toArray, List.set_cons_zero, List.set_cons_succ]
      rfl
     refine oq 5 14 255 HT_ (fun K hK => ?_)
     refine gq Try.func66 #[.agg #[.int .i64 a0_0, .int .i64 a0_1], .int .i64 a1] ?_
     with_reducible refine (numnahref07_rest.calls k a0_0 a0_1 a1 t402 t403 _ A5.out).mono ?_
     rintro e w17 ⟨rfl, hb⟩
     refine ⟨_, rfl, ?_⟩
     replace BK398 := kB BK398 hb
     replace BK399 := kB BK399 hb
     replace BK404 := kB BK404 hb
     replace BK405 := kB BK405 hb
     replace HB := bB HB hb
     (try clear hb)
     (try clear hb2)
     (try clear hk)
     (try clear hi)
     refine hK.out _ _ ⟨cz BK398 0, cz BK398 1⟩ (fun hHeld => ?_)
     clear hK K
     refine nq 14 ?_
     exact norm_ (by simp only [putAll, pu0, la, lb, lc]) (hJ2_5_6_7 (gb404, gb405) _ ⟨hHeld, BK398.out, BK399.out, BK404.out, BK405.out, GW404.out, GE404.out, NB398_404.out, NB404_398.out, NB399_404.out, NB404_399.out, NB405_404.out, NB404_405.out, GW405.out, GE405.out, NB398_405.out, NB405_398.out, NB399_405.out, NB405_399.out, HB.out⟩)
   ·skip
    rintro gb405 w16 ⟨hS_, h0_, h1_, h2_, h3_, h4_, h5_, h6_, h7_, h8_, h9_⟩
    have n0_ : Aside0 (w16.heap[gb398]? = some (.cells #[.int .i64 a0_0, .int .i64 a0_1] 23 (0, 0))) := ⟨h0_⟩
    have n1_ : Aside0 (w16.heap[gb399]? = some (.cells #[.int .i64 0, .int .i64 0] 23 (0, 0))) := ⟨h1_⟩
    have n2_ : Aside0 (w16.heap[gb405]? = some (.cells #[.int .i64 0, .int .i64 0] 23 (0, 0))) := ⟨h2_⟩
    have n3_ : Aside0 (w.heap.size ≤ gb405) := ⟨h3_⟩
    have n4_ : Aside0 (w.heap.size ≤ gb405) := ⟨h4_⟩
    have n5_ : Aside0 (gb398 ≠ gb405) := ⟨h5_⟩
    have n6_ : Aside0 (gb405 ≠ gb398) := ⟨h6_⟩
    have n7_ : Aside0 (gb399 ≠ gb405) := ⟨h7_⟩
    have n8_ : Aside0 (gb405 ≠ gb399) := ⟨h8_⟩
    have n9_ : Aside0 (Below w.heap.size w w16) := ⟨h9_⟩
    clear BK398 BK399 HB h0_ h1_ h2_ h3_ h4_ h5_ h6_ h7_ h8_ h9_
    have BK398 := n0_
    have BK399 := n1_
    have BK405 := n2_
    have GW405 := n3_
    have GE405 := n4_
    have NB398_405 := n5_
    have NB405_398 := n6_
    have NB399_405 := n7_
    have NB405_399 := n8_
    have HB := n9_
    clear n0_ n1_ n2_ n3_ n4_ n5_ n6_ n7_ n8_ n9_
    have hHeld : w16.cell? ⟨gb398, 0, none⟩ = some (.int .i64 a0_0) ∧ w16.cell? ⟨gb398, 1, none⟩ = some (.int .i64 a0_1) := hS_
    refine norm_ (a' := ?_) ?_ ?_
    rotate_left
    ·simp only [putAll, Act.put, List.setIfInBounds_toArray, List.set_cons_zero, List.set_cons_succ]
     rfl
    refine oq 6 7 255 HT_ (fun K hK => ?_)
    refine box_step ?hg (N := 7) ?hd (cs := #[.int .i64 0, .int .i64 0]) (t := 23) ?hr ?_; (case hd => rfl); (case hg => rfl); (case hr => first | (go_simp; done) | (go_simp; rfl))
    intro gb404 hg w17 hbox hb
    have BK404 := A_ hbox
    have GW404 := gw hg HB
    have GE404 := GW404
    have NB398_404 := nl hg BK398
    have NB404_398 := ng hg BK398
    have NB399_404 := nl hg BK399
    have NB404_399 := ng hg BK399
    have NB405_404 := nl hg BK405
    have NB404_405 := ng hg BK405
    replace BK398 := kB BK398 hb
    replace BK399 := kB BK399 hb
    replace BK405 := kB BK405 hb
    replace HB := bB HB hb
    clear hb hbox hg
    refine hK.out _ _ ⟨cz BK398 0, cz BK398 1⟩ (fun hHeld => ?_)
    clear hK K
    refine nq 7 ?_
    exact norm_ (by simp only [putAll, pu0, la, lb, lc]) (hJ2_5_6_7 (gb404, gb405) _ ⟨hHeld, BK398.out, BK399.out, BK404.out, BK405.out, GW404.out, GE404.out, NB398_404.out, NB404_398.out, NB399_404.out, NB404_399.out, NB405_404.out, NB404_405.out, GW405.out, GE405.out, NB398_405.out, NB405_398.out, NB399_405.out, NB405_399.out, HB.out⟩)
  ·skip
   rintro gb404 w16 ⟨hS_, h0_, h1_, h2_, h3_, h4_, h5_, h6_, h7_, h8_, h9_⟩
   have n0_ : Aside0 (w16.heap[gb398]? = some (.cells #[.int .i64 a0_0, .int .i64 a0_1] 23 (0, 0))) := ⟨h0_⟩
   have n1_ : Aside0 (w16.heap[gb399]? = some (.cells #[.int .i64 0, .int .i64 0] 23 (0, 0))) := ⟨h1_⟩
   have n2_ : Aside0 (w16.heap[gb404]? = some (.cells #[.int .i64 0, .int .i64 0] 23 (0, 0))) := ⟨h2_⟩
   have n3_ : Aside0 (w.heap.size ≤ gb404) := ⟨h3_⟩
   have n4_ : Aside0 (w.heap.size ≤ gb404) := ⟨h4_⟩
   have n5_ : Aside0 (gb398 ≠ gb404) := ⟨h5_⟩
   have n6_ : Aside0 (gb404 ≠ gb398) := ⟨h6_⟩
   have n7_ : Aside0 (gb399 ≠ gb404) := ⟨h7_⟩
   have n8_ : Aside0 (gb404 ≠ gb399) := ⟨h8_⟩
   have n9_ : Aside0 (Below w.heap.size w w16) := ⟨h9_⟩
   clear BK398 BK399 HB h0_ h1_ h2_ h3_ h4_ h5_ h6_ h7_ h8_ h9_
   have BK398 := n0_
   have BK399 := n1_
   have BK404 := n2_
   have GW404 := n3_
   have GE404 := n4_
   have NB398_404 := n5_
   have NB404_398 := n6_
   have NB399_404 := n7_
   have NB404_399 := n8_
   have HB := n9_
   clear n0_ n1_ n2_ n3_ n4_ n5_ n6_ n7_ n8_ n9_
   have hHeld : w16.cell? ⟨gb398, 0, none⟩ = some (.int .i64 a0_0) ∧ w16.cell? ⟨gb398, 1, none⟩ = some (.int .i64 a0_1) := hS_
   refine norm_ (a' := ?_) ?_ ?_
   rotate_left
   ·simp only [putAll, Act.put, List.setIfInBounds_toArray, List.set_cons_zero, List.set_cons_succ]
    rfl
   refine oq 7 8 255 HT_ (fun K hK => ?_)
   refine box_step ?hg (N := 8) ?hd (cs := #[.int .i64 0, .int .i64 0]) (t := 23) ?hr ?_; (case hd => rfl); (case hg => rfl); (case hr => first | (go_simp; done) | (go_simp; rfl))
   intro gb405 hg w17 hbox hb
   have BK405 := A_ hbox
   have GW405 := gw hg HB
   have GE405 := GW405
   have NB398_405 := nl hg BK398
   have NB405_398 := ng hg BK398
   have NB399_405 := nl hg BK399
   have NB405_399 := ng hg BK399
   have NB404_405 := nl hg BK404
   have NB405_404 := ng hg BK404
   replace BK398 := kB BK398 hb
   replace BK399 := kB BK399 hb
   replace BK404 := kB BK404 hb
   replace HB := bB HB hb
   clear hb hbox hg
   refine hK.out _ _ ⟨cz BK398 0, cz BK398 1⟩ (fun hHeld => ?_)
   clear hK K
   refine nq 8 ?_
   exact norm_ (by simp only [putAll, pu0, la, lb, lc]) (hJ2_5_6_7 (gb404, gb405) _ ⟨hHeld, BK398.out, BK399.out, BK404.out, BK405.out, GW404.out, GE404.out, NB398_404.out, NB404_398.out, NB399_404.out, NB404_399.out, NB405_404.out, NB404_405.out, GW405.out, GE405.out, NB398_405.out, NB405_398.out, NB399_405.out, NB405_399.out, HB.out⟩)
 rintro ⟨gb404, gb405⟩ w17 ⟨hS_, h0_, h1_, h2_, h3_, h4_, h5_, h6_, h7_, h8_, h9_, h10_, h11_, h12_, h13_, h14_, h15_, h16_, h17_, h18_⟩
 have n0_ : Aside0 (w17.heap[gb398]? = some (.cells #[.int .i64 a0_0, .int .i64 a0_1] 23 (0, 0))) := ⟨h0_⟩
 have n1_ : Aside0 (w17.heap[gb399]? = some (.cells #[.int .i64 0, .int .i64 0] 23 (0, 0))) := ⟨h1_⟩
 have n2_ : Aside0 (w17.heap[gb404]? = some (.cells #[.int .i64 0, .int .i64 0] 23 (0, 0))) := ⟨h2_⟩
 have n3_ : Aside0 (w17.heap[gb405]? = some (.cells #[.int .i64 0, .int .i64 0] 23 (0, 0))) := ⟨h3_⟩
 have n4_ : Aside0 (w.heap.size ≤ gb404) := ⟨h4_⟩
 have n5_ : Aside0 (w.heap.size ≤ gb404) := ⟨h5_⟩
 have n6_ : Aside0 (gb398 ≠ gb404) := ⟨h6_⟩
 have n7_ : Aside0 (gb404 ≠ gb398) := ⟨h7_⟩
 have n8_ : Aside0 (gb399 ≠ gb404) := ⟨h8_⟩
 have n9_ : Aside0 (gb404 ≠ gb399) := ⟨h9_⟩
 have n10_ : Aside0 (gb405 ≠ gb404) := ⟨h10_⟩
 have n11_ : Aside0 (gb404 ≠ gb405) := ⟨h11_⟩
 have n12_ : Aside0 (w.heap.size ≤ gb405) := ⟨h12_⟩
 have n13_ : Aside0 (w.heap.size ≤ gb405) := ⟨h13_⟩
 have n14_ : Aside0 (gb398 ≠ gb405) := ⟨h14_⟩
 have n15_ : Aside0 (gb405 ≠ gb398) := ⟨h15_⟩
 have n16_ : Aside0 (gb399 ≠ gb405) := ⟨h16_⟩
 have n17_ : Aside0 (gb405 ≠ gb399) := ⟨h17_⟩
 have n18_ : Aside0 (Below w.heap.size w w17) := ⟨h18_⟩
 clear BK398 BK399 HB h0_ h1_ h2_ h3_ h4_ h5_ h6_ h7_ h8_ h9_ h10_ h11_ h12_ h13_ h14_ h15_ h16_ h17_ h18_
 have BK398 := n0_
 have BK399 := n1_
 have BK404 := n2_
 have BK405 := n3_
 have GW404 := n4_
 have GE404 := n5_
 have NB398_404 := n6_
 have NB404_398 := n7_
 have NB399_404 := n8_
 have NB404_399 := n9_
 have NB405_404 := n10_
 have NB404_405 := n11_
 have GW405 := n12_
 have GE405 := n13_
 have NB398_405 := n14_
 have NB405_398 := n15_
 have NB399_405 := n16_
 have NB405_399 := n17_
 have HB := n18_
 clear n0_ n1_ n2_ n3_ n4_ n5_ n6_ n7_ n8_ n9_ n10_ n11_ n12_ n13_ n14_ n15_ n16_ n17_ n18_
 have hHeld : w17.cell? ⟨gb398, 0, none⟩ = some (.int .i64 a0_0) ∧ w17.cell? ⟨gb398, 1, none⟩ = some (.int .i64 a0_1) := hS_
 refine norm_ (a' := ?_) ?_ ?_
 rotate_left
 ·simp only [putAll, Act.put, List.setIfInBounds_toArray, List.set_cons_zero, List.set_cons_succ]
  rfl
 refine one_ (i := 8) (N := none) (ba 10 511) rfl rfl (one_of HT_.out (by kernel_rfl)) (by decide) (fun K hK => ?_)
 have hs18 : w17.cell? ⟨gb404, 0, none⟩ = some (.int .i64 0) := cz BK404 0
 have hfs18 := blk_frozen BK404.out 0
 have hns18_0 := NB398_404.out
 have hns18_1 := NB399_404.out
 have hns18_3 := NB405_404.out
 have hms18_0 := NB404_398.out
 have hms18_1 := NB404_399.out
 have hms18_3 := NB404_405.out
 have hs19 : w17.cell? ⟨gb404, 1, none⟩ = some (.int .i64 0) := cz BK404 1
 have hfs19 := blk_frozen BK404.out 1
 have hns19_0 := NB398_404.out
 have hns19_1 := NB399_404.out
 have hns19_3 := NB405_404.out
 have hms19_0 := NB404_398.out
 have hms19_1 := NB404_399.out
 have hms19_3 := NB404_405.out
 refine skip_ (w1 := ?_) (by rfl) rfl ?_ ?_
 rotate_left
 ·go_simp
  rfl
 refine hK.out _ _ ⟨((cell_far (p := ⟨gb404, _, none⟩) NB398_404.out _).trans (((cell_far (p := ⟨gb404, _, none⟩) NB398_404.out _).trans (hHeld.1)))), ((cell_far (p := ⟨gb404, _, none⟩) NB398_404.out _).trans (((cell_far (p := ⟨gb404, _, none⟩) NB398_404.out _).trans (hHeld.2))))⟩ (fun hHeld => ?_)
 clear hK K
 refine one_ (i := 9) (N := none) (ba 10 1023) rfl rfl (one_of HT_.out (by kernel_rfl)) (by decide) (fun K hK => ?_)
 have hs20 : w17.cell? ⟨gb405, 0, none⟩ = some (.int .i64 0) := cz BK405 0
 have hfs20 := blk_frozen BK405.out 0
 have hns20_0 := NB398_405.out
 have hns20_1 := NB399_405.out
 have hns20_2 := NB404_405.out
 have hms20_0 := NB405_398.out
 have hms20_1 := NB405_399.out
 have hms20_2 := NB405_404.out
 have hs21 : w17.cell? ⟨gb405, 1, none⟩ = some (.int .i64 0) := cz BK405 1
 have hfs21 := blk_frozen BK405.out 1
 have hns21_0 := NB398_405.out
 have hns21_1 := NB399_405.out
 have hns21_2 := NB404_405.out
 have hms21_0 := NB405_398.out
 have hms21_1 := NB405_399.out
 have hms21_2 := NB405_404.out
 refine skip_ (w1 := ?_) (by rfl) rfl ?_ ?_
 rotate_left
 ·go_simp
  rfl
 refine hK.out _ _ ⟨((cell_far (p := ⟨gb405, _, none⟩) NB398_405.out _).trans (((cell_far (p := ⟨gb405, _, none⟩) NB398_405.out _).trans (hHeld.1)))), ((cell_far (p := ⟨gb405, _, none⟩) NB398_405.out _).trans (((cell_far (p := ⟨gb405, _, none⟩) NB398_405.out _).trans (hHeld.2))))⟩ (fun hHeld => ?_)
 clear hK K
 refine done_ (done_of HT_.out (by kernel_rfl)) ?_
 try go_wp2
 have n0_ : Aside0 (((((w17.setCell ⟨gb404, 0, none⟩ (.int .i64 t400)).setCell ⟨gb404, 1, none⟩ (.int .i64 t401)).setCell ⟨gb405, 0, none⟩ (.int .i64 t402)).setCell ⟨gb405, 1, none⟩ (.int .i64 t403)).heap[gb398]? = some (.cells #[.int .i64 a0_0, .int .i64 a0_1] 23 (0, 0))) := ⟨by refine blk_far ?_ NB398_405.out _; refine blk_far ?_ NB398_405.out _; refine blk_far ?_ NB398_404.out _; refine blk_far ?_ NB398_404.out _; exact BK398.out⟩
 have n1_ : Aside0 (((((w17.setCell ⟨gb404, 0, none⟩ (.int .i64 t400)).setCell ⟨gb404, 1, none⟩ (.int .i64 t401)).setCell ⟨gb405, 0, none⟩ (.int .i64 t402)).setCell ⟨gb405, 1, none⟩ (.int .i64 t403)).heap[gb399]? = some (.cells #[.int .i64 0, .int .i64 0] 23 (0, 0))) := ⟨by refine blk_far ?_ NB399_405.out _; refine blk_far ?_ NB399_405.out _; refine blk_far ?_ NB399_404.out _; refine blk_far ?_ NB399_404.out _; exact BK399.out⟩
 have n2_ : Aside0 (((((w17.setCell ⟨gb404, 0, none⟩ (.int .i64 t400)).setCell ⟨gb404, 1, none⟩ (.int .i64 t401)).setCell ⟨gb405, 0, none⟩ (.int .i64 t402)).setCell ⟨gb405, 1, none⟩ (.int .i64 t403)).heap[gb404]? = some (.cells #[.int .i64 t400, .int .i64 t401] 23 (0, 0))) := ⟨by refine blk_far ?_ NB404_405.out _; refine blk_far ?_ NB404_405.out _; refine blk_put (cs := #[.int .i64 t400, .int .i64 0]) ?_ 1 _ rfl; refine blk_put (cs := #[.int .i64 0, .int .i64 0]) ?_ 0 _ rfl; exact BK404.out⟩
 have n3_ : Aside0 (((((w17.setCell ⟨gb404, 0, none⟩ (.int .i64 t400)).setCell ⟨gb404, 1, none⟩ (.int .i64 t401)).setCell ⟨gb405, 0, none⟩ (.int .i64 t402)).setCell ⟨gb405, 1, none⟩ (.int .i64 t403)).heap[gb405]? = some (.cells #[.int .i64 t402, .int .i64 t403] 23 (0, 0))) := ⟨by refine blk_put (cs := #[.int .i64 t402, .int .i64 0]) ?_ 1 _ rfl; refine blk_put (cs := #[.int .i64 0, .int .i64 0]) ?_ 0 _ rfl; refine blk_far ?_ NB405_404.out _; refine blk_far ?_ NB405_404.out _; exact BK405.out⟩
 have n4_ : Aside0 (Below w.heap.size w ((((w17.setCell ⟨gb404, 0, none⟩ (.int .i64 t400)).setCell ⟨gb404, 1, none⟩ (.int .i64 t401)).setCell ⟨gb405, 0, none⟩ (.int .i64 t402)).setCell ⟨gb405, 1, none⟩ (.int .i64 t403))) := ⟨by repeat (first | (with_reducible first | exact HB.out | apply below_alloc | apply pw_below_drewN | apply below_drew1 | refine below_set ?_ GE398.out | refine below_set ?_ GE399.out | refine below_set ?_ GE404.out | refine below_set ?_ GE405.out) | exact HB.out)⟩
 (try clear BK398)
 (try clear BK399)
 (try clear BK404)
 (try clear BK405)
 (try clear HB)
 generalize ((((w17.setCell ⟨gb404, 0, none⟩ (.int .i64 t400)).setCell ⟨gb404, 1, none⟩ (.int .i64 t401)).setCell ⟨gb405, 0, none⟩ (.int .i64 t402)).setCell ⟨gb405, 1, none⟩ (.int .i64 t403)) = w22 at n0_ n1_ n2_ n3_ n4_ ⊢
 have BK398 := n0_
 have BK399 := n1_
 have BK404 := n2_
 have BK405 := n3_
 have HB := n4_
 clear n0_ n1_ n2_ n3_ n4_
 replace BK398 := A_ (blk_drew BK398.out)
 replace BK399 := A_ (blk_drew BK399.out)
 replace BK404 := A_ (blk_drew BK404.out)
 replace BK405 := A_ (blk_drew BK405.out)
 replace HB := A_ (below_drew1 HB.out)
 refine start_ (n := 9) (S := fun w' => w'.cell? ⟨gb404, 0, none⟩ = some (.int .i64 t400) ∧ w'.cell? ⟨gb404, 1, none⟩ = some (.int .i64 t401) ∧ w'.cell? ⟨gb398, 0, none⟩ = some (.int .i64 a0_0) ∧ w'.cell? ⟨gb398, 1, none⟩ = some (.int .i64 a0_1) ∧ w'.cell? ⟨gb405, 0, none⟩ = some (.int .i64 t402) ∧ w'.cell? ⟨gb405, 1, none⟩ = some (.int .i64 t403)) (ds := []) (ba 9 0) (by kernel_rfl) rfl rfl ⟨cz BK404 0, cz BK404 1, cz BK398 0, cz BK398 1, cz BK405 0, cz BK405 1⟩ (fun hHeld => ?_); refine with_tabW numnahref07_Garment.tab2 numnahref07_Garment.bits2 (fun HT_ HW_ => ?_)
 generalize w22.drew = w23 at BK398 BK399 BK404 BK405 HB hHeld ⊢
 refine tq 0 15 1 HT_ HW_ hHeld ?_
 refine tq 1 16 3 HT_ HW_ hHeld ?_
 refine tq 2 17 7 HT_ HW_ hHeld ?_
 refine tq 4 19 23 HT_ HW_ hHeld ?_
 refine oq 3 18 31 HT_ (fun K hK => ?_)
 refine gq Try.func31 #[.agg #[.int .i64 a0_0, .int .i64 a0_1], .agg #[.int .i64 t400, .int .i64 t401]] ?_
 with_reducible refine (numnahref07_Sub.calls k a0_0 a0_1 t400 t401 t406 t407 _ A6.out).mono ?_
 rintro e w24 ⟨rfl, hb⟩
 refine ⟨_, rfl, ?_⟩
 replace BK398 := kB BK398 hb
 replace BK399 := kB BK399 hb
 replace BK404 := kB BK404 hb
 replace BK405 := kB BK405 hb
 replace HB := bB HB hb
 (try clear hb)
 (try clear hb2)
 (try clear hk)
 (try clear hi)
 refine hK.out _ _ ⟨cz BK404 0, cz BK404 1, cz BK398 0, cz BK398 1, cz BK405 0, cz BK405 1⟩ (fun hHeld => ?_)
 clear hK K
 refine nq 18 ?_
 refine oq 5 20 63 HT_ (fun K hK => ?_)
 refine gq Try.func31 #[.agg #[.int .i64 t406, .int .i64 t407], .agg #[.int .i64 t402, .int .i64 t403]] ?_
 with_reducible refine (numnahref07_Sub.calls k t406 t407 t402 t403 t408 t409 _ A7.out).mono ?_
 rintro e w25 ⟨rfl, hb⟩
 refine ⟨_, rfl, ?_⟩
 replace BK398 := kB BK398 hb
 replace BK399 := kB BK399 hb
 replace BK404 := kB BK404 hb
 replace BK405 := kB BK405 hb
 replace HB := bB HB hb
 (try clear hb)
 (try clear hb2)
 (try clear hk)
 (try clear hi)
 refine hK.out _ _ ⟨cz BK404 0, cz BK404 1, cz BK398 0, cz BK398 1, cz BK405 0, cz BK405 1⟩ (fun hHeld => ?_)
 clear hK K
 refine nq 20 ?_
 refine oq 6 21 127 HT_ (fun K hK => ?_)
 refine gq Try.func67 #[.agg #[.int .i64 t408, .int .i64 t409]] ?_
 with_reducible refine (numnahref07_Half.calls k t408 t409 t410 t411 _ A8.out).mono ?_
 rintro e w26 ⟨rfl, hb⟩
 refine ⟨_, rfl, ?_⟩
 replace BK398 := kB BK398 hb
 replace BK399 := kB BK399 hb
 replace BK404 := kB BK404 hb
 replace BK405 := kB BK405 hb
 replace HB := bB HB hb
 (try clear hb)
 (try clear hb2)
 (try clear hk)
 (try clear hi)
 refine hK.out _ _ ⟨cz BK404 0, cz BK404 1, cz BK398 0, cz BK398 1, cz BK405 0, cz BK405 1⟩ (fun hHeld => ?_)
 clear hK K
 refine nq 21 ?_
 refine oq 7 22 255 HT_ (fun K hK => ?_)
 refine gq Try.func28 #[.agg #[.int .i64 t400, .int .i64 t401], .agg #[.int .i64 t410, .int .i64 t411]] ?_
 with_reducible refine (numnahref07_Add.calls k t400 t401 t410 t411 t412 t413 _ A9.out).mono ?_
 rintro e w27 ⟨rfl, hb⟩
 refine ⟨_, rfl, ?_⟩
 replace BK398 := kB BK398 hb
 replace BK399 := kB BK399 hb
 replace BK404 := kB BK404 hb
 replace BK405 := kB BK405 hb
 replace HB := bB HB hb
 (try clear hb)
 (try clear hb2)
 (try clear hk)
 (try clear hi)
 refine hK.out _ _ ⟨cz BK404 0, cz BK404 1, cz BK398 0, cz BK398 1, cz BK405 0, cz BK405 1⟩ (fun hHeld => ?_)
 clear hK K
 refine nq 22 ?_
 refine one_ (i := 8) (N := none) (ba 9 511) rfl rfl (one_of HT_.out (by kernel_rfl)) (by decide) (fun K hK => ?_)
 have hs28 : w27.cell? ⟨gb399, 0, none⟩ = some (.int .i64 0) := cz BK399 0
 have hfs28 := blk_frozen BK399.out 0
 have hns28_0 := NB398_399.out
 have hns28_2 := NB404_399.out
 have hns28_3 := NB405_399.out
 have hms28_0 := NB399_398.out
 have hms28_2 := NB399_404.out
 have hms28_3 := NB399_405.out
 have hs29 : w27.cell? ⟨gb399, 1, none⟩ = some (.int .i64 0) := cz BK399 1
 have hfs29 := blk_frozen BK399.out 1
 have hns29_0 := NB398_399.out
 have hns29_2 := NB404_399.out
 have hns29_3 := NB405_399.out
 have hms29_0 := NB399_398.out
 have hms29_2 := NB399_404.out
 have hms29_3 := NB399_405.out
 refine skip_ (w1 := ?_) (by rfl) rfl ?_ ?_
 rotate_left
 ·go_simp
  rfl
 refine hK.out _ _ ⟨((cell_far (p := ⟨gb399, _, none⟩) NB404_399.out _).trans (((cell_far (p := ⟨gb399, _, none⟩) NB404_399.out _).trans (hHeld.1)))), ((cell_far (p := ⟨gb399, _, none⟩) NB404_399.out _).trans (((cell_far (p := ⟨gb399, _, none⟩) NB404_399.out _).trans (hHeld.2.1)))), ((cell_far (p := ⟨gb399, _, none⟩) NB398_399.out _).trans (((cell_far (p := ⟨gb399, _, none⟩) NB398_399.out _).trans (hHeld.2.2.1)))), ((cell_far (p := ⟨gb399, _, none⟩) NB398_399.out _).trans (((cell_far (p := ⟨gb399, _, none⟩) NB398_399.out _).trans (hHeld.2.2.2.1)))), ((cell_far (p := ⟨gb399, _, none⟩) NB405_399.out _).trans (((cell_far (p := ⟨gb399, _, none⟩) NB405_399.out _).trans (hHeld.2.2.2.2.1)))), ((cell_far (p := ⟨gb399, _, none⟩) NB405_399.out _).trans (((cell_far (p := ⟨gb399, _, none⟩) NB405_399.out _).trans (hHeld.2.2.2.2.2))))⟩ (fun hHeld => ?_)
 clear hK K
 refine done_ (done_of HT_.out (by kernel_rfl)) ?_
 try go_wp2
 refine bodyPost_ret (results_cell_row rfl _ _ gb399 23 #[.int .i64 t412, .int .i64 t413] (0, 0) _ rfl (by refine blk_put (cs := #[.int .i64 t412, .int .i64 0]) ?_ 1 _ rfl; refine blk_put (cs := #[.int .i64 0, .int .i64 0]) ?_ 0 _ rfl; exact BK399.out) Try.underlying23 rfl (by kernel_rfl)) rfl ?_
 exact ⟨rfl, by repeat (first | (with_reducible first | exact HB.out | apply below_alloc | apply pw_below_drewN | apply below_drew1 | refine below_set ?_ GE398.out | refine below_set ?_ GE399.out | refine below_set ?_ GE404.out | refine below_set ?_ GE405.out) | exact HB.out)⟩
end Go.Proofs.Ytjohcjfmlhihbaa.G

/- ### Ec -/
namespace Go.Proofs.Ytjohcjfmlhihbaa.P
open Go Go.RowKit Go.Proofs.Ytjohcjfmlhihbaa.G
open Go.Proofs.YtjohcjfmlhihbaaW.PrintWords Go.Proofs.YtjohcjfmlhihbaaW.PrintMore
/-- A number whose numerator and denominator are small. -/
structure Sm (A D : Nat) (q : Rat) : Prop where
  num : q.num.natAbs ≤ A
  den : q.den ≤ D
theorem Sm.mono {A D B E : Nat} {q : Rat} (h : Sm A D q) (h1 : A ≤ B) (h2 : D ≤ E) : Sm B E q := ⟨Nat.le_trans h.num h1, Nat.le_trans h.den h2⟩
theorem Sm.int {A : Nat} {n : Int} (h : n.natAbs ≤ A) : Sm A 1 (n : Rat) := ⟨by rw [whole_num]; exact h, by rw [whole_den]; exact Nat.le_refl _⟩
theorem Sm.zero : Sm 0 1 (0 : Rat) := ⟨Nat.le_refl _, Nat.le_refl _⟩
theorem Sm.neg {A D : Nat} {q : Rat} (h : Sm A D q) : Sm A D (-q) := ⟨by rw [Rat.neg_num, Int.natAbs_neg]; exact h.num, by rw [Rat.neg_den]; exact h.den⟩
theorem Sm.add {A D B E : Nat} {p q : Rat} (h : Sm A D p) (k : Sm B E q) : Sm (A * E + B * D) (D * E) (p + q) :=
  ⟨Nat.le_trans (add_num_le p q) (Nat.add_le_add (Nat.mul_le_mul h.num k.den) (Nat.mul_le_mul k.num h.den)),
   Nat.le_trans (Nat.le_of_dvd (Nat.mul_pos (den_pos p) (den_pos q)) (add_den_dvd p q)) (Nat.mul_le_mul h.den k.den)⟩
theorem Sm.sub {A D B E : Nat} {p q : Rat} (h : Sm A D p) (k : Sm B E q) : Sm (A * E + B * D) (D * E) (p - q) := by rw [← sub_neg]; exact h.add k.neg
theorem Sm.half {A D : Nat} {q : Rat} (h : Sm A D q) : Sm A (D * 2) (q / 2) := by
  have e : q / 2 = mkRat q.num (q.den * 2) := (mk_over q (n := 2) (by omega)).symm
  rw [e]
  exact ⟨Nat.le_trans (num_le _ _) h.num, Nat.le_trans (den_le (by have := den_pos q; omega)) (Nat.mul_le_mul_right _ h.den)⟩
theorem Sm.fits {A D B E : Nat} {p q : Rat} (h : Sm A D p) (k : Sm B E q) (h1 : A * E + B * D < 9223372036854775808) (h2 : D * E < 9223372036854775808) : Fits p q :=
  ⟨Nat.lt_of_le_of_lt (Nat.add_le_add (Nat.mul_le_mul h.num k.den) (Nat.mul_le_mul k.num h.den)) h1, Nat.lt_of_le_of_lt (Nat.mul_le_mul h.den k.den) h2⟩
theorem restR_ge (e : Rat) (c : Rat) : restR e c = if e < c then 0 else e - c := by unfold restR; split <;> split <;> grind
section
variable {e : Rat} (he : Sm 2000000 400 e)
include he
theorem restS {c : Int} (h : 0 ≤ c ∧ c ≤ 1000) : Sm 2400000 400 (restR e (c : Rat)) := by
  unfold restR
  split
  · exact (he.sub (Sm.int (A := 1000) (by omega))).mono (by decide) (by decide)
  · exact Sm.zero.mono (by decide) (by decide)
theorem ev_rest {c : Int} (h : 0 ≤ c ∧ c ≤ 1000) : Ev (fun k => shares_garment_1.f k c e.num (e.den : Int)) ((restR e (c : Rat)).num, ((restR e (c : Rat)).den : Int)) := by
  unfold shares_garment_1.f shares_whole.f
  simp only [Option.bind_some]
  have hf : Fits e (c : Rat) := he.fits (Sm.int (A := 1000) (by omega)) (by decide) (by decide)
  have hm := ev_minus hf
  rw [whole_num, whole_den] at hm
  refine Ev.bind hm ?_
  rw [restR_ge]
  by_cases hlt : e < (c : Rat)
  · rw [if_pos hlt, if_pos ((sign_lt _ _).2 hlt)]; exact Ev.now _
  · rw [if_neg hlt, if_neg (fun h => hlt ((sign_lt _ _).1 h))]; exact Ev.now _
theorem ev_rrest {c : Int} (h : 0 ≤ c ∧ c ≤ 1000) : Ev (fun k => numnahref07_rest.f k e.num (e.den : Int) c) ((restR e (c : Rat)).num, ((restR e (c : Rat)).den : Int)) := by
  unfold numnahref07_rest.f numnahref07_Whole.f
  simp only [Option.bind_some]
  have hf : Fits e (c : Rat) := he.fits (Sm.int (A := 1000) (by omega)) (by decide) (by decide)
  have hf' : Fits (c : Rat) e := (Sm.int (A := 1000) (by omega)).fits he (by decide) (by decide)
  have hl := rless hf'
  rw [whole_num, whole_den] at hl
  have hl' : numnahref07_Less.f c 1 e.num (e.den : Int) = some (decide ((c : Rat) < e)) := hl
  simp only [hl', Option.bind_some]
  unfold restR
  by_cases hlt : (c : Rat) < e
  · rw [if_pos hlt]
    refine Ev.congr (fun k => if_pos (decide_eq_true hlt)) ?_
    have hm := ev_rsub hf
    rw [whole_num, whole_den] at hm
    exact Ev.bind hm (Ev.now _)
  · rw [if_neg hlt]
    exact Ev.congr (fun k => if_neg (by simpa using hlt)) (Ev.now _)
theorem ev_garment {a b : Int} (ha : 0 ≤ a ∧ a ≤ 1000) (hb : 0 ≤ b ∧ b ≤ 1000) :
    Ev (fun k => shares_garment.f k e.num (e.den : Int) a b) ((garR e (a : Rat) (b : Rat)).num, ((garR e (a : Rat) (b : Rat)).den : Int), (garR e (b : Rat) (a : Rat)).num, ((garR e (b : Rat) (a : Rat)).den : Int)) := by
  unfold shares_garment.f
  refine Ev.bind (ev_rest he hb) (Ev.bind (ev_rest he ha) ?_)
  have sx := restS he hb
  have sy := restS he ha
  refine Ev.bind (ev_add (sx.fits sy (by decide) (by decide))) ?_
  have sxy := sx.add sy
  refine Ev.bind (ev_minus (he.fits sxy (by decide) (by decide))) ?_
  have sm := he.sub sxy
  refine Ev.bind (ev_over _ (n := 2) (by omega) (Nat.lt_of_le_of_lt sm.num (by decide)) (Nat.lt_of_le_of_lt (Nat.mul_le_mul_right _ sm.den) (by decide))) ?_
  have sh := sm.half
  refine Ev.bind (ev_add (sx.fits sh (by decide) (by decide))) (Ev.bind (ev_add (sy.fits sh (by decide) (by decide))) ?_)
  have e1 : restR e (b : Rat) + (e - (restR e (b : Rat) + restR e (a : Rat))) / ((2 : Nat) : Rat) = garR e (a : Rat) (b : Rat) := by
    unfold garR; push_cast; grind
  have e2 : restR e (a : Rat) + (e - (restR e (b : Rat) + restR e (a : Rat))) / ((2 : Nat) : Rat) = garR e (b : Rat) (a : Rat) := by
    unfold garR; push_cast; grind
  rw [← e1, ← e2]
  exact Ev.now _
theorem ev_rgarment {a b : Int} (ha : 0 ≤ a ∧ a ≤ 1000) (hb : 0 ≤ b ∧ b ≤ 1000) :
    Ev (fun k => numnahref07_Garment.f k e.num (e.den : Int) a b) ((garR e (a : Rat) (b : Rat)).num, ((garR e (a : Rat) (b : Rat)).den : Int)) := by
  unfold numnahref07_Garment.f
  refine Ev.bind (ev_rrest he hb) (Ev.bind (ev_rrest he ha) ?_)
  have sx := restS he hb
  have sy := restS he ha
  refine Ev.bind (ev_rsub (he.fits sx (by decide) (by decide))) ?_
  have s1 := he.sub sx
  refine Ev.bind (ev_rsub (s1.fits sy (by decide) (by decide))) ?_
  have s2 := s1.sub sy
  refine Ev.bind (ev_rhalf (Nat.lt_of_le_of_lt s2.num (by decide)) (by have := s2.den; omega)) ?_
  refine Ev.bind (ev_radd (sx.fits s2.half (by decide) (by decide))) ?_
  exact Ev.now _
end
end Go.Proofs.Ytjohcjfmlhihbaa.P

/- ### Ew -/
namespace Go.Proofs.Ytjohcjfmlhihbaa.P
open Go Go.RowKit Go.Proofs.Ytjohcjfmlhihbaa.G
open Go.Proofs.YtjohcjfmlhihbaaW.PrintWords Go.Proofs.YtjohcjfmlhihbaaW.PrintMore
theorem awake_now : numnahlaw07_awake.f 60 = some true := by kernel_rfl
theorem ev_awake : Ev (fun k => numnahlaw07_awake.f k) true := Ev.of (fun k => numnahlaw07_awake.mono k) awake_now
end Go.Proofs.Ytjohcjfmlhihbaa.P

/- ### F3 -/
namespace Go.Proofs.Ytjohcjfmlhihbaa.G
open Go.RowKit Go.Proofs.YtjohcjfmlhihbaaW.PrintWords Go.Proofs.YtjohcjfmlhihbaaW.PrintLast Go.Proofs.YtjohcjfmlhihbaaW.PrintMore
attribute [local go_sem] cond_true cond_false fld23_0 fld23_1 fld45_0 fld45_1 fld109_0 fld109_1 fld94_0 fld94_1 max2_int min2_int max_two min_two max_three min_three max_four min_four   -- for this text's walks alone
set_option linter.unusedVariables false
set_option linter.unusedSimpArgs false
attribute [local go_sem high] eqA23
def numnahlaw07_SharesGarments.f (k : Nat) (a0 : Int) (a1 : Int) (a2 : Int) : Option (Bool) := (shares_Garment.f k a0 a1 a2).bind fun bt414 => ((numnahref07_Claims.f k (([a1, a2] : List Int)) a0).bind fun t424 => (if t424 = true then ((numnahref07_Whole.f a0).bind fun bt426 => ((numnahref07_Garment.f k bt426.1 bt426.2 a1 a2).bind fun bt429 => (if (bt414.1 == bt429.1 && (bt414.2.1 == bt429.2)) = true then ((numnahref07_Garment.f k bt426.1 bt426.2 a2 a1).bind fun bt431 => (if (bt414.2.2.1 == bt431.1 && (bt414.2.2.2.1 == bt431.2)) = true then (if bt414.2.2.2.2 = 0 then ((numnahlaw07_awake.f k).bind fun t433 => (some t433)) else (some false)) else (some false))) else (some false)))) else (if (bt414.1 == 0 && (bt414.2.1 == 0)) = true then (if (bt414.2.2.1 == 0 && (bt414.2.2.2.1 == 0)) = true then (if bt414.2.2.2.2 = 2 then ((numnahlaw07_awake.f k).bind fun t425 => (some t425)) else (some false)) else (some false)) else (some false))))
theorem numnahlaw07_SharesGarments.mono : ∀ a0 a1 a2 k, LeO (numnahlaw07_SharesGarments.f k a0 a1 a2) (numnahlaw07_SharesGarments.f (k + 1) a0 a1 a2) := by
 intro a0 a1 a2 k
 unfold numnahlaw07_SharesGarments.f
 repeat' first
   | (with_reducible exact numnahlaw07_awake.mono _)
   | (with_reducible exact numnahref07_Claims.mono _ _ _)
   | (with_reducible exact numnahref07_Garment.mono _ _ _ _ _)
   | (with_reducible exact shares_Garment.mono _ _ _ _)
   | (with_reducible exact LeO.refl _)
   | (with_reducible exact LeO.none _)
   | (with_reducible refine LeO.ite ?_ ?_)
   | (with_reducible refine LeO.bind ?_ (fun _ => ?_))
   | exact numnahlaw07_awake.mono _
   | exact numnahref07_Claims.mono _ _ _
   | exact numnahref07_Garment.mono _ _ _ _ _
   | exact shares_Garment.mono _ _ _ _
   | exact LeO.none _
   | refine LeO.ite ?_ ?_
   | refine LeO.bind ?_ (fun _ => ?_)
def numnahlaw07_SharesGarments.T5 : Bool × List (List Nat × List Nat) := (true, [([], []), ([], []), ([], []), ([], []), ([1, 2, 3], [1, 2, 3]), ([0, 4], [0, 4]), ([5, 4], [5]), ([6], [6]), ([6], [6]), ([6], [6]), ([6], [6]), ([8, 9, 10, 6, 6], [6, 8, 9, 10]), ([7, 11, 6], [6, 7, 11]), ([6, 12], [6, 12]), ([13, 11], [13]), ([14], [14]), ([15, 14], [14, 15]), ([14, 16], [14, 16]), ([17, 14], [17]), ([18, 18], [18]), ([18, 19], [18, 19]), ([20, 19, 0, 1, 2, 3, 4, 5, 6, 7, 8, 9, 10, 11, 12, 13, 14, 15, 16, 17, 18, 19, 20], [20])])
def numnahlaw07_SharesGarments.B5 : List Nat := [0, 0, 0, 0, 14, 31, 63, 127, 127, 127, 127, 1919, 4095, 8191, 16383, 32767, 65535, 131071, 262143, 524287, 1048575, 2097151]
theorem numnahlaw07_SharesGarments.tab5 : rtab .any (opsOf Try.f3 5) = numnahlaw07_SharesGarments.T5 := by kernel_rfl
theorem numnahlaw07_SharesGarments.bits5 : waitsOk numnahlaw07_SharesGarments.T5.2 numnahlaw07_SharesGarments.B5 = true := by kernel_rfl
set_option maxHeartbeats 8000000 in
set_option maxRecDepth 100000 in
theorem numnahlaw07_SharesGarments.calls (k : Nat) (a0 : Int) (a1 : Int) (a2 : Int) (r : Bool) (w : World) (h : numnahlaw07_SharesGarments.f k a0 a1 a2 = some r) (hrt_ : r = true) :
  Calls Try.prog 3 #[.int .i64 a0, .int .i64 a1, .int .i64 a2] w fun e w' => e = .returned (.bool r) ∧ Below w.heap.size w w' := by
 have HRT := A_ hrt_
 clear hrt_
 have hu23 := Try.underlying23
 have HB := A_ (Below.refl w.heap.size w)
 have H : ((shares_Garment.f k a0 a1 a2).bind fun bt414 => ((numnahref07_Claims.f k (([a1, a2] : List Int)) a0).bind fun t424 => (if t424 = true then ((numnahref07_Whole.f a0).bind fun bt426 => ((numnahref07_Garment.f k bt426.1 bt426.2 a1 a2).bind fun bt429 => (if (bt414.1 == bt429.1 && (bt414.2.1 == bt429.2)) = true then ((numnahref07_Garment.f k bt426.1 bt426.2 a2 a1).bind fun bt431 => (if (bt414.2.2.1 == bt431.1 && (bt414.2.2.2.1 == bt431.2)) = true then (if bt414.2.2.2.2 = 0 then ((numnahlaw07_awake.f k).bind fun t433 => (some t433)) else (some false)) else (some false))) else (some false)))) else (if (bt414.1 == 0 && (bt414.2.1 == 0)) = true then (if (bt414.2.2.1 == 0 && (bt414.2.2.2.1 == 0)) = true then (if bt414.2.2.2.2 = 2 then ((numnahlaw07_awake.f k).bind fun t425 => (some t425)) else (some false)) else (some false)) else (some false))))) = some r := h
 clear h
 replace H := Option.bind_eq_some_iff.mp H
 obtain ⟨⟨t414, t415, t416, t417, t418⟩, A40, H⟩ := H
 dsimp only at H
 have A4 := A_ A40
 clear A40
 obtain ⟨y421, hy421⟩ : ∃ y_ : List Int, y_ = (([a1, a2] : List Int)) := ⟨_, rfl⟩
 replace H : ((numnahref07_Claims.f k y421 a0).bind fun t424 => (if t424 = true then ((numnahref07_Whole.f a0).bind fun bt426 => ((numnahref07_Garment.f k bt426.1 bt426.2 a1 a2).bind fun bt429 => (if (t414 == bt429.1 && (t415 == bt429.2)) = true then ((numnahref07_Garment.f k bt426.1 bt426.2 a2 a1).bind fun bt431 => (if (t416 == bt431.1 && (t417 == bt431.2)) = true then (if t418 = 0 then ((numnahlaw07_awake.f k).bind fun t433 => (some t433)) else (some false)) else (some false))) else (some false)))) else (if (t414 == 0 && (t415 == 0)) = true then (if (t416 == 0 && (t417 == 0)) = true then (if t418 = 2 then ((numnahlaw07_awake.f k).bind fun t425 => (some t425)) else (some false)) else (some false)) else (some false)))) = some r := by rw [hy421]; exact H
 have Ny421 := A_ hy421
 clear hy421
 replace H := Option.bind_eq_some_iff.mp H
 obtain ⟨t424, A50, H⟩ := H
 replace H : (if t424 = true then ((numnahref07_Whole.f a0).bind fun bt426 => ((numnahref07_Garment.f k bt426.1 bt426.2 a1 a2).bind fun bt429 => (if (t414 == bt429.1 && (t415 == bt429.2)) = true then ((numnahref07_Garment.f k bt426.1 bt426.2 a2 a1).bind fun bt431 => (if (t416 == bt431.1 && (t417 == bt431.2)) = true then (if t418 = 0 then ((numnahlaw07_awake.f k).bind fun t433 => (some t433)) else (some false)) else (some false))) else (some false)))) else (if (t414 == 0 && (t415 == 0)) = true then (if (t416 == 0 && (t417 == 0)) = true then (if t418 = 2 then ((numnahlaw07_awake.f k).bind fun t425 => (some t425)) else (some false)) else (some false)) else (some false))) = some r := H
 have A5 := A_ A50
 clear A50
 by_cases c6 : t424 = true
 ·subst c6
  have H1 : ((numnahref07_Whole.f a0).bind fun bt426 => ((numnahref07_Garment.f k bt426.1 bt426.2 a1 a2).bind fun bt429 => (if (t414 == bt429.1 && (t415 == bt429.2)) = true then ((numnahref07_Garment.f k bt426.1 bt426.2 a2 a1).bind fun bt431 => (if (t416 == bt431.1 && (t417 == bt431.2)) = true then (if t418 = 0 then ((numnahlaw07_awake.f k).bind fun t433 => (some t433)) else (some false)) else (some false))) else (some false)))) = some r := by rw [if_pos rfl] at H; exact H
  clear H
  have H := H1
  clear H1
  replace H := Option.bind_eq_some_iff.mp H
  obtain ⟨⟨t426, t427⟩, A70, H⟩ := H
  dsimp only at H
  have A7 := A_ A70
  clear A70
  replace H := Option.bind_eq_some_iff.mp H
  obtain ⟨⟨t429, t430⟩, A80, H⟩ := H
  dsimp only at H
  have A8 := A_ A80
  clear A80
  by_cases c9 : (t414 == t429 && (t415 == t430)) = true
  ·rw [if_pos c9] at H
   have c9b0 : (t414 == t429 && (t415 == t430)) = true := c9
   (try (have c9b1 : decide (t414 = t429 && (t415 == t430)) = true := by simpa using c9))
   (try (have c9b2 : (t414 == t429 && (t415 == t430)) = true := by simpa using c9))
   clear c9
   replace H := Option.bind_eq_some_iff.mp H
   obtain ⟨⟨t431, t432⟩, A100, H⟩ := H
   dsimp only at H
   have A10 := A_ A100
   clear A100
   by_cases c11 : (t416 == t431 && (t417 == t432)) = true
   ·rw [if_pos c11] at H
    have c11b0 : (t416 == t431 && (t417 == t432)) = true := c11
    (try (have c11b1 : decide (t416 = t431 && (t417 == t432)) = true := by simpa using c11))
    (try (have c11b2 : (t416 == t431 && (t417 == t432)) = true := by simpa using c11))
    clear c11
    by_cases c12 : t418 = 0
    ·rw [if_pos c12] at H
     have c12b0 : (t418 == 0) = true := beq_iff_eq.mpr c12
     have c12b1 : (t418 != 0) = false := bne_eq_false_iff_eq.mpr c12
     clear c12
     replace H := Option.bind_eq_some_iff.mp H
     obtain ⟨t433, A130, H⟩ := H
     replace H : (some t433) = some r := H
     have A13 := A_ A130
     clear A130
     obtain rfl := Option.some.inj H
     go_enter Try.func3, Try.ntmps3
     try go_wp2_with (first | ((with_reducible refine gate_callee (f := 20) rfl ?_); refine goesL_ (some 15) rfl rfl Try.func20 (by kernel_rfl) rfl #[.int .i64 a0, .int .i64 a1, .int .i64 a2] rfl (by simp only [mt, mc, mz]; rfl) ?_; (with_reducible refine (shares_Garment.calls k a0 a1 a2 t414 t415 t416 t417 t418 _ A4.out).mono ?_); rintro e w14 ⟨rfl, hb⟩; refine ⟨_, rfl, ?_⟩; replace HB := bB HB hb; (try clear hb); (try clear hb2); (try clear hk); (try clear hi)) | ((with_reducible refine gate_dst (N := 7) rfl ?_); refine box_event ?hg (N := 7) ?hd (cs := #[.int .i64 0, .int .i64 0]) (t := 23) ?hr ?_; (case hd => rfl); (case hg => rfl); (case hr => first | (go_simp; done) | (go_simp; rfl)); intro gb419 hg w15 hbox hb; have BK419 := A_ hbox; have GW419 := gw hg HB; have GE419 := GW419; replace HB := bB HB hb; clear hb hbox hg) | ((with_reducible refine gate_dst (N := 8) rfl ?_); refine box_event ?hg (N := 8) ?hd (cs := #[.int .i64 0, .int .i64 0]) (t := 23) ?hr ?_; (case hd => rfl); (case hg => rfl); (case hr => first | (go_simp; done) | (go_simp; rfl)); intro gb420 hg w16 hbox hb; have BK420 := A_ hbox; have GW420 := gw hg HB; have GE420 := GW420; have NB419_420 := nl hg BK419; have NB420_419 := ng hg BK419; replace BK419 := kB BK419 hb; replace HB := bB HB hb; clear hb hbox hg; have hnb17 := NB419_420.out; have hnc17 := NB420_419.out; have hcz18_0 : w16.cell? ⟨gb419, 0, none⟩ = some (.int .i64 0) := cz BK419 0; have hcz18_1 : w16.cell? ⟨gb419, 1, none⟩ = some (.int .i64 0) := cz BK419 1; have hfz18_0 := blk_frozen BK419.out 0; have hfz18_1 := blk_frozen BK419.out 1; have hcz19_0 : w16.cell? ⟨gb420, 0, none⟩ = some (.int .i64 0) := cz BK420 0; have hcz19_1 : w16.cell? ⟨gb420, 1, none⟩ = some (.int .i64 0) := cz BK420 1; have hfz19_0 := blk_frozen BK420.out 0; have hfz19_1 := blk_frozen BK420.out 1) | ((with_reducible refine gate_dst (N := 21) rfl ?_); refine Kd.R_lit (Kd.int .i64) _ 3 ?hg (N := 21) ?hd (xs := ([a1, a2] : List Int)) (inner := [.int .i64 a1, .int .i64 a2]) (ok := fun _ => True) (okp := fun _ => True) ?hr ?hp (fun _ hk => hk) trivial (Below.refl _ _) (Nat.le_refl _) (by simp) ?_; (case hd => rfl); (case hg => rfl); (case hr => first | (go_simp; done) | (go_simp; rfl)); (case hp => exact (Reps.one (show Kd.M (Kd.int .i64) _ _ _ a1 [.int .i64 a1] from rfl) (Reps.one (show Kd.M (Kd.int .i64) _ _ _ a2 [.int .i64 a2] from rfl) (Reps.none _ _)))); intro v422 w20 ho21 hb hg_ hnew_; clear hg_ hnew_; (first | rw [← Ny421.out] at ho21 | (simp only [Int.reduceToNat] at ho21; rw [← Ny421.out] at ho21)); have HO423 := A_ (Kd.R_lower ho21 (below_size (bl HB))); replace BK419 := A_ (blk_below (g := gb419) (o := .cells #[.int .i64 t414, .int .i64 t415] 23 (0, 0)) (by refine blk_far ?_ NB419_420.out _; refine blk_far ?_ NB419_420.out _; refine blk_put (cs := #[.int .i64 t414, .int .i64 0]) ?_ 1 _ rfl; refine blk_put (cs := #[.int .i64 0, .int .i64 0]) ?_ 0 _ rfl; exact BK419.out) hb); replace BK420 := A_ (blk_below (g := gb420) (o := .cells #[.int .i64 t416, .int .i64 t417] 23 (0, 0)) (by refine blk_put (cs := #[.int .i64 t416, .int .i64 0]) ?_ 1 _ rfl; refine blk_put (cs := #[.int .i64 0, .int .i64 0]) ?_ 0 _ rfl; refine blk_far ?_ NB420_419.out _; refine blk_far ?_ NB420_419.out _; exact BK420.out) hb); replace HB := bB HB hb; clear hb ho21; obtain ⟨Ao22, co22, eo22⟩ := Kd.R_slice HO423.out; subst eo22) | ((with_reducible refine gate_callee (f := 21) rfl ?_); refine goesL_ (some 23) rfl rfl Try.func21 (by kernel_rfl) rfl #[.slice Ao22 y421.length co22, .int .i64 a0] rfl (by simp only [mt, mc, mz]; rfl) ?_; (with_reducible refine (numnahref07_Claims.calls k _ _ y421 a0 true _ ?side1 ?side2 A5.out).mono ?_); (case side1 => repeat (first | exact (Kd.R_reads' HO423.out).2.2 | (with_reducible refine Kd.C_alloc ?_ _) | (with_reducible refine Kd.C_drewN ?_ _) | (with_reducible refine Kd.C_drew ?_))); (case side2 => exact (Kd.R_reads' HO423.out).2.1); rintro e w' ⟨rfl, ⟨nd, rfl⟩⟩; refine ⟨_, rfl, ?_⟩; (try (rw [drewN_self w20]; generalize hq_ : World.drewN w20 _ = w20; have n0_ : Aside0 (Kd.R (Kd.int .i64) 3 w20 w.heap.size (fun _ => True) (.slice Ao22 y421.length co22) y421) := ⟨by rw [← hq_]; exact HO423.out⟩; have n1_ : Aside0 (w20.heap[gb419]? = some (.cells #[.int .i64 t414, .int .i64 t415] 23 (0, 0))) := ⟨by rw [← hq_]; exact BK419.out⟩; have n2_ : Aside0 (w20.heap[gb420]? = some (.cells #[.int .i64 t416, .int .i64 t417] 23 (0, 0))) := ⟨by rw [← hq_]; exact BK420.out⟩; have n3_ : Aside0 (Below w.heap.size w w20) := ⟨by rw [← hq_]; exact (bl HB)⟩; clear HO423 BK419 BK420 HB hq_; have HO423 := n0_; have BK419 := n1_; have BK420 := n2_; have HB := n3_; clear n0_ n1_ n2_ n3_))) | ((with_reducible refine gate_callee (f := 23) rfl ?_); refine goesL_ (some 41) rfl rfl Try.func23 (by kernel_rfl) rfl #[.int .i64 a0] rfl (by simp only [mt, mc, mz]; rfl) ?_; (with_reducible refine (numnahref07_Whole.calls a0 t426 t427 _ A7.out).mono ?_); rintro e w23 ⟨rfl, hb⟩; refine ⟨_, rfl, ?_⟩; replace HO423 := rB HO423 hb; replace BK419 := kB BK419 hb; replace BK420 := kB BK420 hb; replace HB := bB HB hb; (try clear hb); (try clear hb2); (try clear hk); (try clear hi)) | ((with_reducible refine gate_dst (N := 10) rfl ?_); refine box_event ?hg (N := 10) ?hd (cs := #[.int .i64 0, .int .i64 0]) (t := 23) ?hr ?_; (case hd => rfl); (case hg => rfl); (case hr => first | (go_simp; done) | (go_simp; rfl)); intro gb428 hg w24 hbox hb; have BK428 := A_ hbox; have GW428 := gw hg HB; have GE428 := GW428; have NB419_428 := nl hg BK419; have NB428_419 := ng hg BK419; have NB420_428 := nl hg BK420; have NB428_420 := ng hg BK420; replace HO423 := rB HO423 hb; replace BK419 := kB BK419 hb; replace BK420 := kB BK420 hb; replace HB := bB HB hb; clear hb hbox hg; have hnb25 := NB428_419.out; have hnc25 := NB419_428.out; have hnb26 := NB428_420.out; have hnc26 := NB420_428.out; have hcz27_0 : w24.cell? ⟨gb428, 0, none⟩ = some (.int .i64 0) := cz BK428 0; have hcz27_1 : w24.cell? ⟨gb428, 1, none⟩ = some (.int .i64 0) := cz BK428 1; have hfz27_0 := blk_frozen BK428.out 0; have hfz27_1 := blk_frozen BK428.out 1))
     have n0_ : Aside0 (Kd.R (Kd.int .i64) 3 ((w24.setCell ⟨gb428, 0, none⟩ (.int .i64 t426)).setCell ⟨gb428, 1, none⟩ (.int .i64 t427)) w.heap.size (fun _ => True) (.slice Ao22 y421.length co22) y421) := ⟨by exact Kd.R_mono (Kd.R_far (p := ⟨gb428, 1, none⟩) (Kd.R_far (p := ⟨gb428, 0, none⟩) (Kd.R_types HO423.out BK428.out (by decide)) (fun _ hk => hk.2) (.int .i64 t426)) (fun _ hk => hk.2) (.int .i64 t427)) (fun _ hk => trivial)⟩
     have n1_ : Aside0 (((w24.setCell ⟨gb428, 0, none⟩ (.int .i64 t426)).setCell ⟨gb428, 1, none⟩ (.int .i64 t427)).heap[gb419]? = some (.cells #[.int .i64 t414, .int .i64 t415] 23 (0, 0))) := ⟨by refine blk_far ?_ NB419_428.out _; refine blk_far ?_ NB419_428.out _; exact BK419.out⟩
     have n2_ : Aside0 (((w24.setCell ⟨gb428, 0, none⟩ (.int .i64 t426)).setCell ⟨gb428, 1, none⟩ (.int .i64 t427)).heap[gb420]? = some (.cells #[.int .i64 t416, .int .i64 t417] 23 (0, 0))) := ⟨by refine blk_far ?_ NB420_428.out _; refine blk_far ?_ NB420_428.out _; exact BK420.out⟩
     have n3_ : Aside0 (((w24.setCell ⟨gb428, 0, none⟩ (.int .i64 t426)).setCell ⟨gb428, 1, none⟩ (.int .i64 t427)).heap[gb428]? = some (.cells #[.int .i64 t426, .int .i64 t427] 23 (0, 0))) := ⟨by refine blk_put (cs := #[.int .i64 t426, .int .i64 0]) ?_ 1 _ rfl; refine blk_put (cs := #[.int .i64 0, .int .i64 0]) ?_ 0 _ rfl; exact BK428.out⟩
     have n4_ : Aside0 (Below w.heap.size w ((w24.setCell ⟨gb428, 0, none⟩ (.int .i64 t426)).setCell ⟨gb428, 1, none⟩ (.int .i64 t427))) := ⟨by repeat (first | (with_reducible first | exact HB.out | apply below_alloc | apply pw_below_drewN | apply below_drew1 | refine below_set ?_ GE419.out | refine below_set ?_ GE420.out | refine below_set ?_ GE428.out) | exact HB.out)⟩
     (try clear HO423)
     (try clear BK419)
     (try clear BK420)
     (try clear BK428)
     (try clear HB)
     generalize ((w24.setCell ⟨gb428, 0, none⟩ (.int .i64 t426)).setCell ⟨gb428, 1, none⟩ (.int .i64 t427)) = w28 at n0_ n1_ n2_ n3_ n4_ ⊢
     have HO423 := n0_
     have BK419 := n1_
     have BK420 := n2_
     have BK428 := n3_
     have HB := n4_
     clear n0_ n1_ n2_ n3_ n4_
     replace HO423 := A_ (Kd.R_drew HO423.out)
     replace BK419 := A_ (blk_drew BK419.out)
     replace BK420 := A_ (blk_drew BK420.out)
     replace BK428 := A_ (blk_drew BK428.out)
     replace HB := A_ (below_drew1 HB.out)
     refine start_ (n := 22) (S := fun w' => w'.cell? ⟨gb419, 0, none⟩ = some (.int .i64 t414) ∧ w'.cell? ⟨gb419, 1, none⟩ = some (.int .i64 t415) ∧ w'.cell? ⟨gb428, 0, none⟩ = some (.int .i64 t426) ∧ w'.cell? ⟨gb428, 1, none⟩ = some (.int .i64 t427) ∧ w'.cell? ⟨gb420, 0, none⟩ = some (.int .i64 t416) ∧ w'.cell? ⟨gb420, 1, none⟩ = some (.int .i64 t417)) (ds := []) (ba 22 0) (by kernel_rfl) rfl rfl ⟨cz BK419 0, cz BK419 1, cz BK428 0, cz BK428 1, cz BK420 0, cz BK420 1⟩ (fun hHeld => ?_); refine with_tabW numnahlaw07_SharesGarments.tab5 numnahlaw07_SharesGarments.bits5 (fun HT_ HW_ => ?_)
     generalize w28.drew = w29 at HO423 BK419 BK420 BK428 HB hHeld ⊢
     refine pq 2 44 4 HT_ ?_
     refine pq 3 45 12 HT_ ?_
     refine tq 0 42 13 HT_ HW_ hHeld ?_
     refine tq 1 43 15 HT_ HW_ hHeld ?_
     refine oq 4 46 31 HT_ (fun K hK => ?_)
     refine gq Try.func24 #[.agg #[.int .i64 t426, .int .i64 t427], .int .i64 a1, .int .i64 a2] ?_
     with_reducible refine (numnahref07_Garment.calls k t426 t427 a1 a2 t429 t430 _ A8.out).mono ?_
     rintro e w30 ⟨rfl, hb⟩
     refine ⟨_, rfl, ?_⟩
     replace HO423 := rB HO423 hb
     replace BK419 := kB BK419 hb
     replace BK420 := kB BK420 hb
     replace BK428 := kB BK428 hb
     replace HB := bB HB hb
     (try clear hb)
     (try clear hb2)
     (try clear hk)
     (try clear hi)
     refine hK.out _ _ ⟨cz BK419 0, cz BK419 1, cz BK428 0, cz BK428 1, cz BK420 0, cz BK420 1⟩ (fun hHeld => ?_)
     clear hK K
     refine nq 46 ?_
     refine pq 5 47 63 HT_ ?_
     refine pq 6 48 127 HT_ ?_
     refine pq 9 51 639 HT_ ?_
     refine pq 10 52 1663 HT_ ?_
     refine tq 7 49 1791 HT_ HW_ hHeld ?_
     refine tq 8 50 2047 HT_ HW_ hHeld ?_
     refine oq 11 53 4095 HT_ (fun K hK => ?_)
     refine gq Try.func24 #[.agg #[.int .i64 t426, .int .i64 t427], .int .i64 a2, .int .i64 a1] ?_
     with_reducible refine (numnahref07_Garment.calls k t426 t427 a2 a1 t431 t432 _ A10.out).mono ?_
     rintro e w31 ⟨rfl, hb⟩
     refine ⟨_, rfl, ?_⟩
     replace HO423 := rB HO423 hb
     replace BK419 := kB BK419 hb
     replace BK420 := kB BK420 hb
     replace BK428 := kB BK428 hb
     replace HB := bB HB hb
     (try clear hb)
     (try clear hb2)
     (try clear hk)
     (try clear hi)
     refine hK.out _ _ ⟨cz BK419 0, cz BK419 1, cz BK428 0, cz BK428 1, cz BK420 0, cz BK420 1⟩ (fun hHeld => ?_)
     clear hK K
     refine nq 53 ?_
     refine pq 12 54 8191 HT_ ?_
     refine pq 13 55 16383 HT_ ?_
     refine pq 14 56 32767 HT_ ?_
     refine pq 15 57 65535 HT_ ?_
     refine pq 16 58 131071 HT_ ?_
     refine pq 17 59 262143 HT_ ?_
     refine pq 18 60 524287 HT_ ?_
     refine oq 19 61 1048575 HT_ (fun K hK => ?_)
     refine gq Try.func22 #[] ?_
     with_reducible refine (numnahlaw07_awake.calls k  t433 _ A13.out).mono ?_
     rintro e w32 ⟨rfl, hb⟩
     refine ⟨_, rfl, ?_⟩
     replace HO423 := rB HO423 hb
     replace BK419 := kB BK419 hb
     replace BK420 := kB BK420 hb
     replace BK428 := kB BK428 hb
     replace HB := bB HB hb
     (try clear hb)
     (try clear hb2)
     (try clear hk)
     (try clear hi)
     refine hK.out _ _ ⟨cz BK419 0, cz BK419 1, cz BK428 0, cz BK428 1, cz BK420 0, cz BK420 1⟩ (fun hHeld => ?_)
     clear hK K
     refine nq 61 ?_
     refine pq 20 62 2097151 HT_ ?_
     refine pq 21 6 4194303 HT_ ?_
     refine done_ (done_of HT_.out (by kernel_rfl)) ?_
     try go_wp2
     go_ret
     exact ⟨rfl, by repeat (first | (with_reducible first | exact HB.out | apply below_alloc | apply pw_below_drewN | apply below_drew1 | refine below_set ?_ GE419.out | refine below_set ?_ GE420.out | refine below_set ?_ GE428.out) | exact HB.out)⟩
    ·rw [if_neg c12] at H
     have c12b0 : (t418 == 0) = false := beq_eq_false_iff_ne.mpr c12
     have c12b1 : (t418 != 0) = true := bne_iff_ne.mpr c12
     exact absurd ((Option.some.inj H).trans HRT.out) (by decide)
   ·rw [if_neg c11] at H
    have c11b0 : (t416 == t431 && (t417 == t432)) = false := by simpa using c11
    (try (have c11b1 : decide (t416 = t431 && (t417 == t432)) = false := by simpa using c11))
    (try (have c11b2 : (t416 == t431 && (t417 == t432)) = false := by simpa using c11))
    (try (have c11b3 : ¬ (t416 = t431 && (t417 == t432)) := by simpa using c11))
    clear c11
    exact absurd ((Option.some.inj H).trans HRT.out) (by decide)
  ·rw [if_neg c9] at H
   have c9b0 : (t414 == t429 && (t415 == t430)) = false := by simpa using c9
   (try (have c9b1 : decide (t414 = t429 && (t415 == t430)) = false := by simpa using c9))
   (try (have c9b2 : (t414 == t429 && (t415 == t430)) = false := by simpa using c9))
   (try (have c9b3 : ¬ (t414 = t429 && (t415 == t430)) := by simpa using c9))
   clear c9
   exact absurd ((Option.some.inj H).trans HRT.out) (by decide)
 ·replace c6 := Bool.eq_false_iff.mpr c6
  subst c6
  have H1 : (if (t414 == 0 && (t415 == 0)) = true then (if (t416 == 0 && (t417 == 0)) = true then (if t418 = 2 then ((numnahlaw07_awake.f k).bind fun t425 => (some t425)) else (some false)) else (some false)) else (some false)) = some r := by rw [if_neg (show ¬ (false = true) by decide)] at H; exact H
  clear H
  have H := H1
  clear H1
  by_cases c86 : (t414 == 0 && (t415 == 0)) = true
  ·rw [if_pos c86] at H
   have c86b0 : (t414 == 0 && (t415 == 0)) = true := c86
   (try (have c86b1 : decide (t414 = 0 && (t415 == 0)) = true := by simpa using c86))
   (try (have c86b2 : (t414 == 0 && (t415 == 0)) = true := by simpa using c86))
   clear c86
   by_cases c87 : (t416 == 0 && (t417 == 0)) = true
   ·rw [if_pos c87] at H
    have c87b0 : (t416 == 0 && (t417 == 0)) = true := c87
    (try (have c87b1 : decide (t416 = 0 && (t417 == 0)) = true := by simpa using c87))
    (try (have c87b2 : (t416 == 0 && (t417 == 0)) = true := by simpa using c87))
    clear c87
    by_cases c88 : t418 = 2
    ·rw [if_pos c88] at H
     have c88b0 : (t418 == 2) = true := beq_iff_eq.mpr c88
     have c88b1 : (t418 != 2) = false := bne_eq_false_iff_eq.mpr c88
     clear c88
     replace H := Option.bind_eq_some_iff.mp H
     obtain ⟨t425, A890, H⟩ := H
     replace H : (some t425) = some r := H
     have A89 := A_ A890
     clear A890
     obtain rfl := Option.some.inj H
     go_enter Try.func3, Try.ntmps3
     go_wp2_with (first | ((with_reducible refine gate_callee (f := 20) rfl ?_); refine goesL_ (some 15) rfl rfl Try.func20 (by kernel_rfl) rfl #[.int .i64 a0, .int .i64 a1, .int .i64 a2] rfl (by simp only [mt, mc, mz]; rfl) ?_; (with_reducible refine (shares_Garment.calls k a0 a1 a2 t414 t415 t416 t417 t418 _ A4.out).mono ?_); rintro e w90 ⟨rfl, hb⟩; refine ⟨_, rfl, ?_⟩; replace HB := bB HB hb; (try clear hb); (try clear hb2); (try clear hk); (try clear hi)) | ((with_reducible refine gate_dst (N := 7) rfl ?_); refine box_event ?hg (N := 7) ?hd (cs := #[.int .i64 0, .int .i64 0]) (t := 23) ?hr ?_; (case hd => rfl); (case hg => rfl); (case hr => first | (go_simp; done) | (go_simp; rfl)); intro gb419 hg w91 hbox hb; have BK419 := A_ hbox; have GW419 := gw hg HB; have GE419 := GW419; replace HB := bB HB hb; clear hb hbox hg) | ((with_reducible refine gate_dst (N := 8) rfl ?_); refine box_event ?hg (N := 8) ?hd (cs := #[.int .i64 0, .int .i64 0]) (t := 23) ?hr ?_; (case hd => rfl); (case hg => rfl); (case hr => first | (go_simp; done) | (go_simp; rfl)); intro gb420 hg w92 hbox hb; have BK420 := A_ hbox; have GW420 := gw hg HB; have GE420 := GW420; have NB419_420 := nl hg BK419; have NB420_419 := ng hg BK419; replace BK419 := kB BK419 hb; replace HB := bB HB hb; clear hb hbox hg; have hnb93 := NB419_420.out; have hnc93 := NB420_419.out; have hcz94_0 : w92.cell? ⟨gb419, 0, none⟩ = some (.int .i64 0) := cz BK419 0; have hcz94_1 : w92.cell? ⟨gb419, 1, none⟩ = some (.int .i64 0) := cz BK419 1; have hfz94_0 := blk_frozen BK419.out 0; have hfz94_1 := blk_frozen BK419.out 1; have hcz95_0 : w92.cell? ⟨gb420, 0, none⟩ = some (.int .i64 0) := cz BK420 0; have hcz95_1 : w92.cell? ⟨gb420, 1, none⟩ = some (.int .i64 0) := cz BK420 1; have hfz95_0 := blk_frozen BK420.out 0; have hfz95_1 := blk_frozen BK420.out 1) | ((with_reducible refine gate_dst (N := 21) rfl ?_); refine Kd.R_lit (Kd.int .i64) _ 3 ?hg (N := 21) ?hd (xs := ([a1, a2] : List Int)) (inner := [.int .i64 a1, .int .i64 a2]) (ok := fun _ => True) (okp := fun _ => True) ?hr ?hp (fun _ hk => hk) trivial (Below.refl _ _) (Nat.le_refl _) (by simp) ?_; (case hd => rfl); (case hg => rfl); (case hr => first | (go_simp; done) | (go_simp; rfl)); (case hp => exact (Reps.one (show Kd.M (Kd.int .i64) _ _ _ a1 [.int .i64 a1] from rfl) (Reps.one (show Kd.M (Kd.int .i64) _ _ _ a2 [.int .i64 a2] from rfl) (Reps.none _ _)))); intro v422 w96 ho97 hb hg_ hnew_; clear hg_ hnew_; (first | rw [← Ny421.out] at ho97 | (simp only [Int.reduceToNat] at ho97; rw [← Ny421.out] at ho97)); have HO423 := A_ (Kd.R_lower ho97 (below_size (bl HB))); replace BK419 := A_ (blk_below (g := gb419) (o := .cells #[.int .i64 t414, .int .i64 t415] 23 (0, 0)) (by refine blk_far ?_ NB419_420.out _; refine blk_far ?_ NB419_420.out _; refine blk_put (cs := #[.int .i64 t414, .int .i64 0]) ?_ 1 _ rfl; refine blk_put (cs := #[.int .i64 0, .int .i64 0]) ?_ 0 _ rfl; exact BK419.out) hb); replace BK420 := A_ (blk_below (g := gb420) (o := .cells #[.int .i64 t416, .int .i64 t417] 23 (0, 0)) (by refine blk_put (cs := #[.int .i64 t416, .int .i64 0]) ?_ 1 _ rfl; refine blk_put (cs := #[.int .i64 0, .int .i64 0]) ?_ 0 _ rfl; refine blk_far ?_ NB420_419.out _; refine blk_far ?_ NB420_419.out _; exact BK420.out) hb); replace HB := bB HB hb; clear hb ho97; obtain ⟨Ao98, co98, eo98⟩ := Kd.R_slice HO423.out; subst eo98) | ((with_reducible refine gate_callee (f := 21) rfl ?_); refine goesL_ (some 23) rfl rfl Try.func21 (by kernel_rfl) rfl #[.slice Ao98 y421.length co98, .int .i64 a0] rfl (by simp only [mt, mc, mz]; rfl) ?_; (with_reducible refine (numnahref07_Claims.calls k _ _ y421 a0 false _ ?side1 ?side2 A5.out).mono ?_); (case side1 => repeat (first | exact (Kd.R_reads' HO423.out).2.2 | (with_reducible refine Kd.C_alloc ?_ _) | (with_reducible refine Kd.C_drewN ?_ _) | (with_reducible refine Kd.C_drew ?_))); (case side2 => exact (Kd.R_reads' HO423.out).2.1); rintro e w' ⟨rfl, ⟨nd, rfl⟩⟩; refine ⟨_, rfl, ?_⟩; have hcz99_0 : w96.cell? ⟨gb419, 0, none⟩ = some (.int .i64 t414) := cz BK419 0; have hcz99_1 : w96.cell? ⟨gb419, 1, none⟩ = some (.int .i64 t415) := cz BK419 1; have hfz99_0 := blk_frozen BK419.out 0; have hfz99_1 := blk_frozen BK419.out 1; have hcz100_0 : w96.cell? ⟨gb420, 0, none⟩ = some (.int .i64 t416) := cz BK420 0; have hcz100_1 : w96.cell? ⟨gb420, 1, none⟩ = some (.int .i64 t417) := cz BK420 1; have hfz100_0 := blk_frozen BK420.out 0; have hfz100_1 := blk_frozen BK420.out 1) | (go_at_call 22; (with_reducible refine (numnahlaw07_awake.calls k  t425 _ A89.out).mono ?_); rintro e w101 ⟨rfl, hb⟩; replace HO423 := rB HO423 hb; replace BK419 := kB BK419 hb; replace BK420 := kB BK420 hb; replace HB := bB HB hb; (try clear hb); (try clear hb2); (try clear hk); (try clear hi)))
     go_ret
     exact ⟨rfl, by repeat (first | (with_reducible first | exact HB.out | apply below_alloc | apply pw_below_drewN | apply below_drew1 | refine below_set ?_ GE419.out | refine below_set ?_ GE420.out) | exact HB.out)⟩
    ·rw [if_neg c88] at H
     have c88b0 : (t418 == 2) = false := beq_eq_false_iff_ne.mpr c88
     have c88b1 : (t418 != 2) = true := bne_iff_ne.mpr c88
     exact absurd ((Option.some.inj H).trans HRT.out) (by decide)
   ·rw [if_neg c87] at H
    have c87b0 : (t416 == 0 && (t417 == 0)) = false := by simpa using c87
    (try (have c87b1 : decide (t416 = 0 && (t417 == 0)) = false := by simpa using c87))
    (try (have c87b2 : (t416 == 0 && (t417 == 0)) = false := by simpa using c87))
    (try (have c87b3 : ¬ (t416 = 0 && (t417 == 0)) := by simpa using c87))
    clear c87
    exact absurd ((Option.some.inj H).trans HRT.out) (by decide)
  ·rw [if_neg c86] at H
   have c86b0 : (t414 == 0 && (t415 == 0)) = false := by simpa using c86
   (try (have c86b1 : decide (t414 = 0 && (t415 == 0)) = false := by simpa using c86))
   (try (have c86b2 : (t414 == 0 && (t415 == 0)) = false := by simpa using c86))
   (try (have c86b3 : ¬ (t414 = 0 && (t415 == 0)) := by simpa using c86))
   clear c86
   exact absurd ((Option.some.inj H).trans HRT.out) (by decide)/-- THE ONE PURE STATEMENT of numnahlaw07_SharesGarments: yours. -/
def numnahlaw07_SharesGarments.Pure : Prop := ∀ (a0 : Int) (a1 : Int) (a2 : Int), (Lit.int .i64 a0).wf = true → (Lit.int .i64 a1).wf = true → (Lit.int .i64 a2).wf = true → ∃ k, numnahlaw07_SharesGarments.f k a0 a1 a2 = some true
theorem numnahlaw07_SharesGarments.walk (P : numnahlaw07_SharesGarments.Pure) (a0 : Int) (a1 : Int) (a2 : Int) (w : World) (w0 : (Lit.int .i64 a0).wf = true) (w1 : (Lit.int .i64 a1).wf = true) (w2 : (Lit.int .i64 a2).wf = true) :
  Calls Try.prog 3 #[.int .i64 a0, .int .i64 a1, .int .i64 a2] w fun e w' => e = .returned (.bool true) ∧ Below w.heap.size w w' := by
 obtain ⟨k, h⟩ := P a0 a1 a2 w0 w1 w2
 refine (numnahlaw07_SharesGarments.calls k a0 a1 a2 true w h rfl).mono ?_
 rintro e w' ⟨rfl, hd⟩
 exact ⟨rfl, hd⟩
end Go.Proofs.Ytjohcjfmlhihbaa.G

/- ### LGarments -/
namespace Go.Proofs.Ytjohcjfmlhihbaa.P
open Go Go.RowKit Go.Proofs.Ytjohcjfmlhihbaa.G
open Go.Proofs.YtjohcjfmlhihbaaW.PrintWords Go.Proofs.YtjohcjfmlhihbaaW.PrintMore
theorem fit2 (a b : Int) : H.fitL [a, b] := by unfold H.fitL; simp
theorem newClaims_r {k : Nat} {l : List Int} {e : Int} {b : Bool} (h : newClaimsR.f k l e = some b) : ∃ x y, shares_newClaims.f k l e = some (x, y, b) := by
  unfold newClaimsR.f at h
  obtain ⟨⟨x, y, z⟩, hx, hz⟩ := Option.map_eq_some_iff.1 h
  exact ⟨x, y, by rw [hx]; simp only at hz; rw [hz]⟩
theorem ev_Garment_no {e a b : Int} (h : clB [a, b] e = false) : Ev (fun k => shares_Garment.f k e a b) (0, 0, 0, 0, 2) := by
  obtain ⟨K, hK⟩ := ev_newClaims (fit2 a b) e
  refine ⟨K, fun k hk => ?_⟩
  obtain ⟨x, y, hx⟩ := newClaims_r (hK k hk)
  show shares_Garment.f k e a b = _
  unfold shares_Garment.f
  rw [hx, h]
  rfl
theorem cl2 {e a b : Int} (h : clB [a, b] e = true) : (0 ≤ a ∧ a ≤ 1000) ∧ (0 ≤ b ∧ b ≤ 1000) ∧ 0 ≤ e ∧ e ≤ a + b := by
  have h := of_decide_eq_true h
  have ha := h.1.mem a (by simp)
  have hb := h.1.mem b (by simp)
  have he := h.2
  have hs : sI [a, b] = a + b := by simp [sI]
  rw [hs] at he
  exact ⟨ha, hb, he.1, by omega⟩
theorem ev_Garment {e a b : Int} (h : clB [a, b] e = true) : Ev (fun k => shares_Garment.f k e a b) ((garR (e : Rat) (a : Rat) (b : Rat)).num, ((garR (e : Rat) (a : Rat) (b : Rat)).den : Int), (garR (e : Rat) (b : Rat) (a : Rat)).num, ((garR (e : Rat) (b : Rat) (a : Rat)).den : Int), 0) := by
  obtain ⟨ha, hb, h0, h1⟩ := cl2 h
  obtain ⟨K, hK⟩ := ev_newClaims (fit2 a b) e
  have he : Sm 2000000 400 (e : Rat) := (Sm.int (A := 2000000) (by omega)).mono (Nat.le_refl _) (by decide)
  obtain ⟨K', hG⟩ := ev_garment he ha hb
  refine ⟨max K K', fun k hk => ?_⟩
  obtain ⟨x, y, hx⟩ := newClaims_r (hK k (by omega))
  have hg := hG k (by omega)
  rw [whole_num, whole_den] at hg
  have hg' : shares_garment.f k e 1 a b = _ := hg
  show shares_Garment.f k e a b = _
  unfold shares_Garment.f shares_whole.f
  rw [hx, h]
  simp only [Option.bind_some, if_true, hg']
theorem garments_pure (a0 a1 a2 : Int) : ∃ k, numnahlaw07_SharesGarments.f k a0 a1 a2 = some true := by
  refine Ev.rounds ?_
  unfold numnahlaw07_SharesGarments.f
  obtain ⟨c, hc⟩ : ∃ c, clB [a1, a2] a0 = c := ⟨_, rfl⟩
  have hr := ev_rclaims [a1, a2] a0
  rw [hc] at hr
  cases c with
  | false =>
    refine Ev.bind (ev_Garment_no hc) (Ev.bind hr ?_)
    exact Ev.bind ev_awake (Ev.now _)
  | true =>
    refine Ev.bind (ev_Garment hc) (Ev.bind hr ?_)
    obtain ⟨ha, hb, h0, h1⟩ := cl2 hc
    have he : Sm 2000000 400 (a0 : Rat) := (Sm.int (A := 2000000) (by omega)).mono (Nat.le_refl _) (by decide)
    have g1 := ev_rgarment he ha hb
    have g2 := ev_rgarment he hb ha
    rw [whole_num, whole_den] at g1 g2
    simp only [if_true, numnahref07_Whole.f, Option.bind_some]
    refine Ev.bind g1 ?_
    simp only [beq_self_eq_true, Bool.and_self, if_true]
    refine Ev.bind g2 ?_
    simp only [beq_self_eq_true, Bool.and_self, if_true]
    exact Ev.bind ev_awake (Ev.now _)
theorem garments_Pure : numnahlaw07_SharesGarments.Pure := fun a0 a1 a2 _ _ _ => garments_pure a0 a1 a2
end Go.Proofs.Ytjohcjfmlhihbaa.P
