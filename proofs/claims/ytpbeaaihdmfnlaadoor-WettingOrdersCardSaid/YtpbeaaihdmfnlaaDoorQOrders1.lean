/- Several texts, joined. -/
import Derived.Test.YtpbeaaihdmfnlaaDoorQB6
namespace Go.Proofs.YtpbeaaihdmfnlaaDoor.G
end Go.Proofs.YtpbeaaihdmfnlaaDoor.G
namespace Go.Proofs.YtpbeaaihdmfnlaaDoor.H
end Go.Proofs.YtpbeaaihdmfnlaaDoor.H
namespace Go.Proofs.YtpbeaaihdmfnlaaDoor.M
end Go.Proofs.YtpbeaaihdmfnlaaDoor.M
namespace Go.Proofs.YtpbeaaihdmfnlaaDoor.Row
end Go.Proofs.YtpbeaaihdmfnlaaDoor.Row
namespace Go.Proofs.YtpbeaaihdmfnlaaDoorW.PrintLast
end Go.Proofs.YtpbeaaihdmfnlaaDoorW.PrintLast
namespace Go.Proofs.YtpbeaaihdmfnlaaDoorW.PrintMore
end Go.Proofs.YtpbeaaihdmfnlaaDoorW.PrintMore
namespace Go.Proofs.YtpbeaaihdmfnlaaDoorW.PrintWords
end Go.Proofs.YtpbeaaihdmfnlaaDoorW.PrintWords

/- ### Gx16 -/
-- Written by a program for this seat: plain functions and their walks.
namespace Go.Proofs.YtpbeaaihdmfnlaaDoor.G
open Go.RowKit Go.Proofs.YtpbeaaihdmfnlaaDoor.H Go.Proofs.YtpbeaaihdmfnlaaDoorW.PrintWords Go.Proofs.YtpbeaaihdmfnlaaDoorW.PrintLast Go.Proofs.YtpbeaaihdmfnlaaDoorW.PrintMore
attribute [local go_sem] max2_int min2_int max_two min_two max_three min_three max_four min_four   -- for this text's walks alone
set_option linter.unusedVariables false
set_option linter.unusedSimpArgs false

/-! ### numnahlaw06_WettingOrders: function 8 -/
mutual
def numnahlaw06_WettingOrders.j0 : Nat → Int → List Int → List (S48) → List Int → Int → Option (Bool)
 | 0, _, _, _, _, _ => none
 | k + 1, x0, x2, x7, x8, x9 => (numnahlaw06_some.f k x0 x9).bind fun t467 => ((numnahref06_Set.f k t467).bind fun t470 => (numnahlaw06_WettingOrders.l0 k x0 x2 x7 x8 x9 t467 t470 ([] : List (S48)) 0))
def numnahlaw06_WettingOrders.j3 : Nat → Int → List (S48) → Int → List Int → Int → List (S48) → Option (Bool)
 | 0, _, _, _, _, _, _ => none
 | k + 1, x0, x7, x9, x10, x11, x12 => (wetting_Close.f x0 x7 x10).bind fun bt492 => (if bt492.2.2 = 0 then ((numnahref06_List.f k x11).bind fun t497 => ((numnahlaw06_ints.f k bt492.1 t497).bind fun t500 => (numnahlaw06_WettingOrders.j4 k x0 x7 x9 x10 x12 (!t500)))) else (numnahlaw06_WettingOrders.j4 k x0 x7 x9 x10 x12 true))
def numnahlaw06_WettingOrders.j4 : Nat → Int → List (S48) → Int → List Int → List (S48) → Bool → Option (Bool)
 | 0, _, _, _, _, _, _ => none
 | k + 1, x0, x7, x9, x10, x12, x125 => if x125 = true then (some false) else (numnahlaw06_WettingOrders.l2 k x0 x7 x9 x10 x12 0)
def numnahlaw06_WettingOrders.l2 : Nat → Int → List (S48) → Int → List Int → List (S48) → Int → Option (Bool)
 | 0, _, _, _, _, _, _ => none
 | k + 1, x0, x7, x9, x10, x12, x21 => if x21 ≤ (x12.length : Int) then (if 0 ≤ x21 then ((wetting_Check.f x0 x7 x10 (x12.take (x21 : Int).toNat)).bind fun t505 => (if t505 = 0 then (numnahlaw06_WettingOrders.l2 k x0 x7 x9 x10 x12 (wrap64 (x21 + 1))) else (some false))) else (none)) else ((numnahlaw06_pairs.f x12).bind fun t506 => ((numnahlaw06_mod.f x9 x0).bind fun t509 => ((numnahlaw06_mod.f x9 x0).bind fun t510 => (if t506.length < 8796093022208 then ((wetting_Check.f x0 x7 x10 (t506 ++ [(⟨t509, t510⟩ : S48)])).bind fun t514 => (if t514 = 10 then ((numnahlaw06_awake.f).bind fun t515 => (some t515)) else (some false))) else (none)))))
def numnahlaw06_WettingOrders.l0 : Nat → Int → List Int → List (S48) → List Int → Int → List Int → Int → List (S48) → Int → Option (Bool)
 | 0, _, _, _, _, _, _, _, _, _ => none
 | k + 1, x0, x2, x7, x8, x9, x10, x11, x12, x13 => if x13 < x0 then (numnahlaw06_WettingOrders.l1 k x0 x2 x7 x8 x9 x10 x11 x12 x13 ([] : List (S48)) 0) else (numnahlaw06_WettingOrders.j3 k x0 x7 x9 x10 x11 x12)
def numnahlaw06_WettingOrders.l1 : Nat → Int → List Int → List (S48) → List Int → Int → List Int → Int → List (S48) → Int → List (S48) → Int → Option (Bool)
 | 0, _, _, _, _, _, _, _, _, _, _, _ => none
 | k + 1, x0, x2, x7, x8, x9, x10, x11, x12, x13, x14, x15 => if x15 < x0 then (if 0 ≤ x15 then (if x15 < (x8.length : Int) then (if (Int.tmod (shr .i64 x11 x15) 2) = 1 then ((numnahref06_Count.f k (Go.bits .andNot .i64 (rd x8 x15) x11)).bind fun t472 => (if t472 = 1 then ((numnahref06_List.f k (Go.bits .andNot .i64 (rd x8 x15) x11)).bind fun t473 => (if 0 < (t473.length : Int) then (if x14.length < 8796093022208 then (numnahlaw06_WettingOrders.l1 k x0 x2 x7 x8 x9 x10 x11 x12 x13 (x14 ++ [(⟨x15, rd t473 0⟩ : S48)]) (wrap64 (x15 + 1))) else (none)) else (none))) else (numnahlaw06_WettingOrders.l1 k x0 x2 x7 x8 x9 x10 x11 x12 x13 x14 (wrap64 (x15 + 1))))) else (numnahlaw06_WettingOrders.l1 k x0 x2 x7 x8 x9 x10 x11 x12 x13 x14 (wrap64 (x15 + 1)))) else (none)) else (none)) else (if (x14.length : Int) = 0 then (numnahlaw06_WettingOrders.j3 k x0 x7 x9 x10 x11 x12) else (if (wrap64 (x13 + 1)) < (x2.length : Int) then (if 0 ≤ (wrap64 (x13 + 1)) then ((numnahlaw06_mod.f (rd x2 (wrap64 (x13 + 1))) (x14.length : Int)).bind fun t481 => (if 0 ≤ t481 then (if t481 < (x14.length : Int) then (if x12.length < 8796093022208 then (if 0 ≤ ((rd_T48 x14 t481).f1) then (numnahlaw06_WettingOrders.l0 k x0 x2 x7 x8 x9 x10 (Go.bits .or .i64 x11 (shl .i64 1 ((rd_T48 x14 t481).f1))) (x12 ++ [(⟨(rd_T48 x14 t481).f0, (rd_T48 x14 t481).f1⟩ : S48)]) (wrap64 (x13 + 1))) else (none)) else (none)) else (none)) else (none))) else (none)) else (if 0 < (x14.length : Int) then (if x12.length < 8796093022208 then (if 0 ≤ ((rd_T48 x14 0).f1) then (numnahlaw06_WettingOrders.l0 k x0 x2 x7 x8 x9 x10 (Go.bits .or .i64 x11 (shl .i64 1 ((rd_T48 x14 0).f1))) (x12 ++ [(⟨(rd_T48 x14 0).f0, (rd_T48 x14 0).f1⟩ : S48)]) (wrap64 (x13 + 1))) else (none)) else (none)) else (none))))
end
def numnahlaw06_WettingOrders.f (k : Nat) (a0 : Int) (l1 : List (S48)) (l2 : List Int) : Option (Bool) := (numnahlaw06_tame.f k a0 l1).bind fun bt459 => ((numnahref06_Near.f bt459.1 bt459.2).bind fun t463 => (if (l2.length : Int) > 0 then (if 0 < (l2.length : Int) then (numnahlaw06_WettingOrders.j0 k bt459.1 l2 bt459.2 t463 (rd l2 0)) else (none)) else (numnahlaw06_WettingOrders.j0 k bt459.1 l2 bt459.2 t463 0)))
theorem numnahlaw06_WettingOrders.mono_l : ∀ k, (∀ y0 y1 y2 y3 y4, LeO (numnahlaw06_WettingOrders.j0 k y0 y1 y2 y3 y4) (numnahlaw06_WettingOrders.j0 (k + 1) y0 y1 y2 y3 y4)) ∧ (∀ y0 y1 y2 y3 y4 y5, LeO (numnahlaw06_WettingOrders.j3 k y0 y1 y2 y3 y4 y5) (numnahlaw06_WettingOrders.j3 (k + 1) y0 y1 y2 y3 y4 y5)) ∧ (∀ y0 y1 y2 y3 y4 y5, LeO (numnahlaw06_WettingOrders.j4 k y0 y1 y2 y3 y4 y5) (numnahlaw06_WettingOrders.j4 (k + 1) y0 y1 y2 y3 y4 y5)) ∧ (∀ y0 y1 y2 y3 y4 y5, LeO (numnahlaw06_WettingOrders.l2 k y0 y1 y2 y3 y4 y5) (numnahlaw06_WettingOrders.l2 (k + 1) y0 y1 y2 y3 y4 y5)) ∧ (∀ y0 y1 y2 y3 y4 y5 y6 y7 y8, LeO (numnahlaw06_WettingOrders.l0 k y0 y1 y2 y3 y4 y5 y6 y7 y8) (numnahlaw06_WettingOrders.l0 (k + 1) y0 y1 y2 y3 y4 y5 y6 y7 y8)) ∧ (∀ y0 y1 y2 y3 y4 y5 y6 y7 y8 y9 y10, LeO (numnahlaw06_WettingOrders.l1 k y0 y1 y2 y3 y4 y5 y6 y7 y8 y9 y10) (numnahlaw06_WettingOrders.l1 (k + 1) y0 y1 y2 y3 y4 y5 y6 y7 y8 y9 y10))
 | 0 => ⟨fun _ _ _ _ _ r h => by simp [numnahlaw06_WettingOrders.j0] at h, fun _ _ _ _ _ _ r h => by simp [numnahlaw06_WettingOrders.j3] at h, fun _ _ _ _ _ _ r h => by simp [numnahlaw06_WettingOrders.j4] at h, fun _ _ _ _ _ _ r h => by simp [numnahlaw06_WettingOrders.l2] at h, fun _ _ _ _ _ _ _ _ _ r h => by simp [numnahlaw06_WettingOrders.l0] at h, fun _ _ _ _ _ _ _ _ _ _ _ r h => by simp [numnahlaw06_WettingOrders.l1] at h⟩
 | k + 1 => by
  obtain ⟨ih0, ih1, ih2, ih3, ih4, ih5⟩ := numnahlaw06_WettingOrders.mono_l k
  refine ⟨?_, ?_, ?_, ?_, ?_, ?_⟩
  ·intro y0 y1 y2 y3 y4
   unfold numnahlaw06_WettingOrders.j0
   repeat' first
   | (with_reducible exact ih0 _ _ _ _ _)
   | (with_reducible exact ih1 _ _ _ _ _ _)
   | (with_reducible exact ih2 _ _ _ _ _ _)
   | (with_reducible exact ih3 _ _ _ _ _ _)
   | (with_reducible exact ih4 _ _ _ _ _ _ _ _ _)
   | (with_reducible exact ih5 _ _ _ _ _ _ _ _ _ _ _)
   | (with_reducible exact numnahlaw06_ints.mono _ _ _)
   | (with_reducible exact numnahlaw06_some.mono _ _ _)
   | (with_reducible exact numnahlaw06_tame.mono _ _ _)
   | (with_reducible exact numnahref06_Count.mono _ _)
   | (with_reducible exact numnahref06_List.mono _ _)
   | (with_reducible exact numnahref06_Set.mono _ _)
   | (with_reducible exact LeO.refl _)
   | (with_reducible exact LeO.none _)
   | (with_reducible refine LeO.ite ?_ ?_)
   | (with_reducible refine LeO.bind ?_ (fun _ => ?_))
   | exact ih0 _ _ _ _ _
   | exact ih1 _ _ _ _ _ _
   | exact ih2 _ _ _ _ _ _
   | exact ih3 _ _ _ _ _ _
   | exact ih4 _ _ _ _ _ _ _ _ _
   | exact ih5 _ _ _ _ _ _ _ _ _ _ _
   | exact numnahlaw06_ints.mono _ _ _
   | exact numnahlaw06_some.mono _ _ _
   | exact numnahlaw06_tame.mono _ _ _
   | exact numnahref06_Count.mono _ _
   | exact numnahref06_List.mono _ _
   | exact numnahref06_Set.mono _ _
   | exact LeO.none _
   | refine LeO.ite ?_ ?_
   | refine LeO.bind ?_ (fun _ => ?_)
  ·intro y0 y1 y2 y3 y4 y5
   unfold numnahlaw06_WettingOrders.j3
   repeat' first
   | (with_reducible exact ih0 _ _ _ _ _)
   | (with_reducible exact ih1 _ _ _ _ _ _)
   | (with_reducible exact ih2 _ _ _ _ _ _)
   | (with_reducible exact ih3 _ _ _ _ _ _)
   | (with_reducible exact ih4 _ _ _ _ _ _ _ _ _)
   | (with_reducible exact ih5 _ _ _ _ _ _ _ _ _ _ _)
   | (with_reducible exact numnahlaw06_ints.mono _ _ _)
   | (with_reducible exact numnahlaw06_some.mono _ _ _)
   | (with_reducible exact numnahlaw06_tame.mono _ _ _)
   | (with_reducible exact numnahref06_Count.mono _ _)
   | (with_reducible exact numnahref06_List.mono _ _)
   | (with_reducible exact numnahref06_Set.mono _ _)
   | (with_reducible exact LeO.refl _)
   | (with_reducible exact LeO.none _)
   | (with_reducible refine LeO.ite ?_ ?_)
   | (with_reducible refine LeO.bind ?_ (fun _ => ?_))
   | exact ih0 _ _ _ _ _
   | exact ih1 _ _ _ _ _ _
   | exact ih2 _ _ _ _ _ _
   | exact ih3 _ _ _ _ _ _
   | exact ih4 _ _ _ _ _ _ _ _ _
   | exact ih5 _ _ _ _ _ _ _ _ _ _ _
   | exact numnahlaw06_ints.mono _ _ _
   | exact numnahlaw06_some.mono _ _ _
   | exact numnahlaw06_tame.mono _ _ _
   | exact numnahref06_Count.mono _ _
   | exact numnahref06_List.mono _ _
   | exact numnahref06_Set.mono _ _
   | exact LeO.none _
   | refine LeO.ite ?_ ?_
   | refine LeO.bind ?_ (fun _ => ?_)
  ·intro y0 y1 y2 y3 y4 y5
   unfold numnahlaw06_WettingOrders.j4
   repeat' first
   | (with_reducible exact ih0 _ _ _ _ _)
   | (with_reducible exact ih1 _ _ _ _ _ _)
   | (with_reducible exact ih2 _ _ _ _ _ _)
   | (with_reducible exact ih3 _ _ _ _ _ _)
   | (with_reducible exact ih4 _ _ _ _ _ _ _ _ _)
   | (with_reducible exact ih5 _ _ _ _ _ _ _ _ _ _ _)
   | (with_reducible exact numnahlaw06_ints.mono _ _ _)
   | (with_reducible exact numnahlaw06_some.mono _ _ _)
   | (with_reducible exact numnahlaw06_tame.mono _ _ _)
   | (with_reducible exact numnahref06_Count.mono _ _)
   | (with_reducible exact numnahref06_List.mono _ _)
   | (with_reducible exact numnahref06_Set.mono _ _)
   | (with_reducible exact LeO.refl _)
   | (with_reducible exact LeO.none _)
   | (with_reducible refine LeO.ite ?_ ?_)
   | (with_reducible refine LeO.bind ?_ (fun _ => ?_))
   | exact ih0 _ _ _ _ _
   | exact ih1 _ _ _ _ _ _
   | exact ih2 _ _ _ _ _ _
   | exact ih3 _ _ _ _ _ _
   | exact ih4 _ _ _ _ _ _ _ _ _
   | exact ih5 _ _ _ _ _ _ _ _ _ _ _
   | exact numnahlaw06_ints.mono _ _ _
   | exact numnahlaw06_some.mono _ _ _
   | exact numnahlaw06_tame.mono _ _ _
   | exact numnahref06_Count.mono _ _
   | exact numnahref06_List.mono _ _
   | exact numnahref06_Set.mono _ _
   | exact LeO.none _
   | refine LeO.ite ?_ ?_
   | refine LeO.bind ?_ (fun _ => ?_)
  ·intro y0 y1 y2 y3 y4 y5
   unfold numnahlaw06_WettingOrders.l2
   repeat' first
   | (with_reducible exact ih0 _ _ _ _ _)
   | (with_reducible exact ih1 _ _ _ _ _ _)
   | (with_reducible exact ih2 _ _ _ _ _ _)
   | (with_reducible exact ih3 _ _ _ _ _ _)
   | (with_reducible exact ih4 _ _ _ _ _ _ _ _ _)
   | (with_reducible exact ih5 _ _ _ _ _ _ _ _ _ _ _)
   | (with_reducible exact numnahlaw06_ints.mono _ _ _)
   | (with_reducible exact numnahlaw06_some.mono _ _ _)
   | (with_reducible exact numnahlaw06_tame.mono _ _ _)
   | (with_reducible exact numnahref06_Count.mono _ _)
   | (with_reducible exact numnahref06_List.mono _ _)
   | (with_reducible exact numnahref06_Set.mono _ _)
   | (with_reducible exact LeO.refl _)
   | (with_reducible exact LeO.none _)
   | (with_reducible refine LeO.ite ?_ ?_)
   | (with_reducible refine LeO.bind ?_ (fun _ => ?_))
   | exact ih0 _ _ _ _ _
   | exact ih1 _ _ _ _ _ _
   | exact ih2 _ _ _ _ _ _
   | exact ih3 _ _ _ _ _ _
   | exact ih4 _ _ _ _ _ _ _ _ _
   | exact ih5 _ _ _ _ _ _ _ _ _ _ _
   | exact numnahlaw06_ints.mono _ _ _
   | exact numnahlaw06_some.mono _ _ _
   | exact numnahlaw06_tame.mono _ _ _
   | exact numnahref06_Count.mono _ _
   | exact numnahref06_List.mono _ _
   | exact numnahref06_Set.mono _ _
   | exact LeO.none _
   | refine LeO.ite ?_ ?_
   | refine LeO.bind ?_ (fun _ => ?_)
  ·intro y0 y1 y2 y3 y4 y5 y6 y7 y8
   unfold numnahlaw06_WettingOrders.l0
   repeat' first
   | (with_reducible exact ih0 _ _ _ _ _)
   | (with_reducible exact ih1 _ _ _ _ _ _)
   | (with_reducible exact ih2 _ _ _ _ _ _)
   | (with_reducible exact ih3 _ _ _ _ _ _)
   | (with_reducible exact ih4 _ _ _ _ _ _ _ _ _)
   | (with_reducible exact ih5 _ _ _ _ _ _ _ _ _ _ _)
   | (with_reducible exact numnahlaw06_ints.mono _ _ _)
   | (with_reducible exact numnahlaw06_some.mono _ _ _)
   | (with_reducible exact numnahlaw06_tame.mono _ _ _)
   | (with_reducible exact numnahref06_Count.mono _ _)
   | (with_reducible exact numnahref06_List.mono _ _)
   | (with_reducible exact numnahref06_Set.mono _ _)
   | (with_reducible exact LeO.refl _)
   | (with_reducible exact LeO.none _)
   | (with_reducible refine LeO.ite ?_ ?_)
   | (with_reducible refine LeO.bind ?_ (fun _ => ?_))
   | exact ih0 _ _ _ _ _
   | exact ih1 _ _ _ _ _ _
   | exact ih2 _ _ _ _ _ _
   | exact ih3 _ _ _ _ _ _
   | exact ih4 _ _ _ _ _ _ _ _ _
   | exact ih5 _ _ _ _ _ _ _ _ _ _ _
   | exact numnahlaw06_ints.mono _ _ _
   | exact numnahlaw06_some.mono _ _ _
   | exact numnahlaw06_tame.mono _ _ _
   | exact numnahref06_Count.mono _ _
   | exact numnahref06_List.mono _ _
   | exact numnahref06_Set.mono _ _
   | exact LeO.none _
   | refine LeO.ite ?_ ?_
   | refine LeO.bind ?_ (fun _ => ?_)
  ·intro y0 y1 y2 y3 y4 y5 y6 y7 y8 y9 y10
   unfold numnahlaw06_WettingOrders.l1
   repeat' first
   | (with_reducible exact ih0 _ _ _ _ _)
   | (with_reducible exact ih1 _ _ _ _ _ _)
   | (with_reducible exact ih2 _ _ _ _ _ _)
   | (with_reducible exact ih3 _ _ _ _ _ _)
   | (with_reducible exact ih4 _ _ _ _ _ _ _ _ _)
   | (with_reducible exact ih5 _ _ _ _ _ _ _ _ _ _ _)
   | (with_reducible exact numnahlaw06_ints.mono _ _ _)
   | (with_reducible exact numnahlaw06_some.mono _ _ _)
   | (with_reducible exact numnahlaw06_tame.mono _ _ _)
   | (with_reducible exact numnahref06_Count.mono _ _)
   | (with_reducible exact numnahref06_List.mono _ _)
   | (with_reducible exact numnahref06_Set.mono _ _)
   | (with_reducible exact LeO.refl _)
   | (with_reducible exact LeO.none _)
   | (with_reducible refine LeO.ite ?_ ?_)
   | (with_reducible refine LeO.bind ?_ (fun _ => ?_))
   | exact ih0 _ _ _ _ _
   | exact ih1 _ _ _ _ _ _
   | exact ih2 _ _ _ _ _ _
   | exact ih3 _ _ _ _ _ _
   | exact ih4 _ _ _ _ _ _ _ _ _
   | exact ih5 _ _ _ _ _ _ _ _ _ _ _
   | exact numnahlaw06_ints.mono _ _ _
   | exact numnahlaw06_some.mono _ _ _
   | exact numnahlaw06_tame.mono _ _ _
   | exact numnahref06_Count.mono _ _
   | exact numnahref06_List.mono _ _
   | exact numnahref06_Set.mono _ _
   | exact LeO.none _
   | refine LeO.ite ?_ ?_
   | refine LeO.bind ?_ (fun _ => ?_)
theorem numnahlaw06_WettingOrders.mono : ∀ a0 a1 a2 k, LeO (numnahlaw06_WettingOrders.f k a0 a1 a2) (numnahlaw06_WettingOrders.f (k + 1) a0 a1 a2) := by
 intro a0 a1 a2 k
 obtain ⟨ih0, ih1, ih2, ih3, ih4, ih5⟩ := numnahlaw06_WettingOrders.mono_l k
 unfold numnahlaw06_WettingOrders.f
 repeat' first
   | (with_reducible exact ih0 _ _ _ _ _)
   | (with_reducible exact ih1 _ _ _ _ _ _)
   | (with_reducible exact ih2 _ _ _ _ _ _)
   | (with_reducible exact ih3 _ _ _ _ _ _)
   | (with_reducible exact ih4 _ _ _ _ _ _ _ _ _)
   | (with_reducible exact ih5 _ _ _ _ _ _ _ _ _ _ _)
   | (with_reducible exact numnahlaw06_ints.mono _ _ _)
   | (with_reducible exact numnahlaw06_some.mono _ _ _)
   | (with_reducible exact numnahlaw06_tame.mono _ _ _)
   | (with_reducible exact numnahref06_Count.mono _ _)
   | (with_reducible exact numnahref06_List.mono _ _)
   | (with_reducible exact numnahref06_Set.mono _ _)
   | (with_reducible exact LeO.refl _)
   | (with_reducible exact LeO.none _)
   | (with_reducible refine LeO.ite ?_ ?_)
   | (with_reducible refine LeO.bind ?_ (fun _ => ?_))
   | exact ih0 _ _ _ _ _
   | exact ih1 _ _ _ _ _ _
   | exact ih2 _ _ _ _ _ _
   | exact ih3 _ _ _ _ _ _
   | exact ih4 _ _ _ _ _ _ _ _ _
   | exact ih5 _ _ _ _ _ _ _ _ _ _ _
   | exact numnahlaw06_ints.mono _ _ _
   | exact numnahlaw06_some.mono _ _ _
   | exact numnahlaw06_tame.mono _ _ _
   | exact numnahref06_Count.mono _ _
   | exact numnahref06_List.mono _ _
   | exact numnahref06_Set.mono _ _
   | exact LeO.none _
   | refine LeO.ite ?_ ?_
   | refine LeO.bind ?_ (fun _ => ?_)
set_option maxHeartbeats 8000000 in
set_option maxRecDepth 100000 in
theorem numnahlaw06_WettingOrders.calls (k : Nat) (a0 : Int) (A1 : Option Addr) (c1 : Nat) (l1 : List (S48)) (A2 : Option Addr) (c2 : Nat) (l2 : List Int) (r : Bool) (w : World) (hr1 : Kd.C k48 w A1 l1.length l1) (hc1 : l1.length ≤ c1) (hr2 : Kd.C (Kd.int .i64) w A2 l2.length l2) (hc2 : l2.length ≤ c2) (h : numnahlaw06_WettingOrders.f k a0 l1 l2 = some r) (hT : Tab w) :
  Calls Tryd.prog 8 #[.int .i64 a0, .slice A1 l1.length c1, .slice A2 l2.length c2] w fun e w' => e = .returned (.bool r) ∧ Below w.heap.size w w' := by
 have HT := Aside0.mk hT
 clear hT
 have hu48 := Tryd.underlying48
 have HR1 := Aside0.mk hr1
 have HC1 := Aside0.mk hc1
 clear hr1 hc1
 have HR2 := Aside0.mk hr2
 have HC2 := Aside0.mk hc2
 clear hr2 hc2
 have HB := Aside0.mk (Below.refl w.heap.size w)
 have H : ((numnahlaw06_tame.f k a0 l1).bind fun bt459 => ((numnahref06_Near.f bt459.1 bt459.2).bind fun t463 => (if (l2.length : Int) > 0 then (if 0 < (l2.length : Int) then (numnahlaw06_WettingOrders.j0 k bt459.1 l2 bt459.2 t463 (rd l2 0)) else (none)) else (numnahlaw06_WettingOrders.j0 k bt459.1 l2 bt459.2 t463 0)))) = some r := h
 clear h
 replace H := Option.bind_eq_some_iff.mp H
 obtain ⟨⟨t459, t460⟩, A40, H⟩ := H
 replace H : ((numnahref06_Near.f t459 t460).bind fun t463 => (if (l2.length : Int) > 0 then (if 0 < (l2.length : Int) then (numnahlaw06_WettingOrders.j0 k t459 l2 t460 t463 (rd l2 0)) else (none)) else (numnahlaw06_WettingOrders.j0 k t459 l2 t460 t463 0))) = some r := H
 have A4 := Aside0.mk A40
 clear A40
 replace H := Option.bind_eq_some_iff.mp H
 obtain ⟨t463, A50, H⟩ := H
 replace H : (if (l2.length : Int) > 0 then (if 0 < (l2.length : Int) then (numnahlaw06_WettingOrders.j0 k t459 l2 t460 t463 (rd l2 0)) else (none)) else (numnahlaw06_WettingOrders.j0 k t459 l2 t460 t463 0)) = some r := H
 have A5 := Aside0.mk A50
 clear A50
 have HC6 := Aside0.mk H
 clear H
 go_enter Tryd.func8, Tryd.ntmps8
 go_upto_if 34 with (first | ((with_reducible refine gate_callee (f := 27) rfl ?_); refine goesL_ (some 26) rfl rfl Tryd.func27 (by kernel_rfl) rfl #[.int .i64 a0, .slice A1 l1.length c1] rfl (by (try simp only [List.map_toArray, List.map_cons, List.map_nil]); first | done | rfl | (simp only [List.length_drop, List.length_take]; rfl)) ?_; (with_reducible refine (numnahlaw06_tame.calls k a0 _ _ l1 t459 t460 _ ?side1 ?side2 A4.out).mono ?_); (case side1 => repeat (first | exact HR1.out | (with_reducible refine Kd.C_alloc ?_ _) | (with_reducible refine Kd.C_drewN ?_ _) | (with_reducible refine Kd.C_drew ?_))); (case side2 => exact HC1.out); rintro e w7 ⟨v461, rfl, ho0, hb⟩; refine ⟨_, rfl, ?_⟩; have n0_ := Aside0.mk (Kd.R_lower ho0 (below_size (by repeat (first | (with_reducible first | exact HB.out | apply below_alloc | apply pw_below_drewN | apply below_drew1) | exact HB.out)))); have n1_ := Aside0.mk (below_step (by repeat (first | (with_reducible first | exact HB.out | apply below_alloc | apply pw_below_drewN | apply below_drew1) | exact HB.out)) hb); clear HB; have HO462 := n0_; have HB := n1_; clear n0_ n1_; (try clear hb); (try clear hb2); (try clear hk); (try clear hi); (try clear ho0); obtain ⟨Ao8, co8, eo8⟩ := Kd.R_slice HO462.out; subst eo8) | ((with_reducible refine gate_callee (f := 22) rfl ?_); refine goesL_ (some 31) rfl rfl Tryd.func22 (by kernel_rfl) rfl #[.int .i64 t459, .slice Ao8 t460.length co8] rfl (by (try simp only [List.map_toArray, List.map_cons, List.map_nil]); first | done | rfl | (simp only [List.length_drop, List.length_take]; rfl)) ?_; (with_reducible refine (numnahref06_Near.calls t459 _ _ t460 t463 _ ?side1 ?side2 A5.out).mono ?_); (case side1 => repeat (first | exact (Kd.R_reads' HO462.out).2.2 | (with_reducible refine Kd.C_alloc ?_ _) | (with_reducible refine Kd.C_drewN ?_ _) | (with_reducible refine Kd.C_drew ?_))); (case side2 => exact (Kd.R_reads' HO462.out).2.1); rintro e w9 ⟨v464, rfl, ho0, hb⟩; refine ⟨_, rfl, ?_⟩; have n0_ := Aside0.mk (Kd.R_below (by (with_reducible repeat (first | apply Kd.R_alloc | apply Kd.R_drewN | apply Kd.R_drew)); exact HO462.out) hb); have n1_ := Aside0.mk (Kd.R_lower ho0 (below_size (by repeat (first | (with_reducible first | exact HB.out | apply below_alloc | apply pw_below_drewN | apply below_drew1) | exact HB.out)))); have n2_ := Aside0.mk (below_step (by repeat (first | (with_reducible first | exact HB.out | apply below_alloc | apply pw_below_drewN | apply below_drew1) | exact HB.out)) hb); clear HO462; clear HB; have HO462 := n0_; have HO465 := n1_; have HB := n2_; clear n0_ n1_ n2_; (try clear hb); (try clear hb2); (try clear hk); (try clear hi); (try clear ho0)))
 (try simp only [Act.put, List.setIfInBounds_toArray, List.set_cons_zero, List.set_cons_succ])
 go_cut [9] (fun v9 wc => ∃ (kq : Nat) (x9_5 : Int), v9 = .int .i64 x9_5 ∧ Aside0 (numnahlaw06_WettingOrders.j0 kq t459 l2 t460 t463 x9_5 = some r) ∧ Aside0 (kq ≤ k) ∧ Aside0 (Kd.R k48 48 wc w.heap.size (fun _ => True) (.slice Ao8 t460.length co8) t460) ∧ Aside0 (Kd.R (Kd.int .i64) 3 wc w.heap.size (fun _ => True) v464 t463) ∧ Aside0 (Below w.heap.size w wc))
 case first =>
  have H := HC6.out
  clear HC6
  by_cases c10 : (l2.length : Int) > 0
  ·rw [if_pos c10] at H
   have c10b0 : decide (0 < (l2.length : Int)) = true := decide_eq_true c10
   have c10b1 : decide (0 < l2.length) = true := decide_eq_true (by omega)
   have c10n2 : (0 < l2.length) = True := eq_true (by omega)
   clear c10
   (first | rw [c10b0] | (simp only [i64_w, i32_w]; rw [c10b0]) | skip)
   by_cases c11 : 0 < (l2.length : Int)
   ·rw [if_pos c11] at H
    have c11b0 : decide (0 < (l2.length : Int)) = true := decide_eq_true c11
    have c11b1 : decide (0 < l2.length) = true := decide_eq_true (by omega)
    have c11n2 : (0 < l2.length) = True := eq_true (by omega)
    clear c11
    have H' := Aside0.mk H
    clear H
    have p466 : 0 ≤ (0 : Int) := (by omega)
    have q466 : 0 < (l2.length : Int) := of_decide_eq_true (by first | (with_reducible assumption) | assumption)
    obtain ⟨ad466, e466, hx466_0⟩ := Kd.at_int HR2.out 0 p466 q466
    cases e466
    have qi466 : (0 < l2.length) = True := eq_true (by omega)
    (try rw [show ((0 : Int)).toNat = 0 from rfl] at hx466_0)
    (try rw [Addr.add_zero'] at hx466_0)
    replace hx466_0 := (HB.out.cell (World.block_lt_of_cell? w _ hx466_0)).trans hx466_0
    replace p466 := eq_true p466
    replace q466 := eq_true q466
    go_wp2
    all_goals (try (exfalso; first | exact absurd (of_decide_eq_true c11b1) (by assumption) | exact absurd (of_decide_eq_true c10b1) (by assumption)))
    go_meet
    case rel => exact ⟨_, (rd l2 0), (by first | rfl | (simp; done) | (simp [*]; done)), H', ⟨by first | omega | exact Nat.le_refl _⟩, ⟨by (with_reducible repeat (first | apply Kd.R_alloc | apply Kd.R_drewN | apply Kd.R_drew)); exact HO462.out⟩, ⟨by (with_reducible repeat (first | apply Kd.R_alloc | apply Kd.R_drewN | apply Kd.R_drew)); exact HO465.out⟩, ⟨by repeat (first | (with_reducible first | exact HB.out | apply below_alloc | apply pw_below_drewN | apply below_drew1) | exact HB.out)⟩⟩
   ·rw [if_neg c11] at H
    exact absurd H (by simp)
  ·rw [if_neg c10] at H
   have c10b0 : decide (0 < (l2.length : Int)) = false := decide_eq_false c10
   have c10b1 : decide (0 < l2.length) = false := decide_eq_false (by omega)
   have c10n2 : (0 < l2.length) = False := eq_false (by omega)
   clear c10
   (first | rw [c10b0] | (simp only [i64_w, i32_w]; rw [c10b0]) | skip)
   have H' := Aside0.mk H
   clear H
   go_wp2
   all_goals (try (exfalso; first | exact absurd (by assumption) (of_decide_eq_false c10b1)))
   go_meet
   case rel => exact ⟨_, (0), (by first | rfl | (simp; done) | (simp [*]; done)), H', ⟨by first | omega | exact Nat.le_refl _⟩, ⟨by (with_reducible repeat (first | apply Kd.R_alloc | apply Kd.R_drewN | apply Kd.R_drew)); exact HO462.out⟩, ⟨by (with_reducible repeat (first | apply Kd.R_alloc | apply Kd.R_drewN | apply Kd.R_drew)); exact HO465.out⟩, ⟨by repeat (first | (with_reducible first | exact HB.out | apply below_alloc | apply pw_below_drewN | apply below_drew1) | exact HB.out)⟩⟩
 case rest =>
  clear HC6
  try clear c1
  try clear c2
  try clear p2
  try clear p4
  try clear q4
  try clear hx4
  try clear qi4
  try clear c8
  try clear c10
  try clear c10b0
  try clear c10b1
  try clear c11
  try clear c11b0
  try clear c11b1
  try clear hx466_0
  try clear p466
  try clear q466
  obtain ⟨kq, x9_5, rfl, HA, HJ5, HO_7, HO_8, HB⟩ := hcut
  cases kq with
  | zero => exact absurd HA.out (by simp [numnahlaw06_WettingOrders.j0])
  | succ kj5 =>
   have H := HA.out
   clear HA
   simp only [numnahlaw06_WettingOrders.j0] at H
   replace H := Option.bind_eq_some_iff.mp H
   obtain ⟨t467, A120, H⟩ := H
   replace H : ((numnahref06_Set.f kj5 t467).bind fun t470 => (numnahlaw06_WettingOrders.l0 kj5 t459 l2 t460 t463 x9_5 t467 t470 ([] : List (S48)) 0)) = some r := H
   have A12 := Aside0.mk A120
   clear A120
   replace H := Option.bind_eq_some_iff.mp H
   obtain ⟨t470, A130, H⟩ := H
   replace H : (numnahlaw06_WettingOrders.l0 kj5 t459 l2 t460 t463 x9_5 t467 t470 ([] : List (S48)) 0) = some r := H
   have A13 := Aside0.mk A130
   clear A130
   have HC14 := Aside0.mk H
   clear H
   go_upto_block 0 with (first | ((with_reducible refine gate_callee (f := 28) rfl ?_); refine goesL_ (some 40) rfl rfl Tryd.func28 (by kernel_rfl) rfl #[.int .i64 t459, .int .i64 x9_5] rfl (by (try simp only [List.map_toArray, List.map_cons, List.map_nil]); first | done | rfl | (simp only [List.length_drop, List.length_take]; rfl)) ?_; (with_reducible refine (numnahlaw06_some.calls kj5 t459 x9_5 t467 _ A12.out).mono ?_); rintro e w15 ⟨v468, rfl, ho0, hb⟩; refine ⟨_, rfl, ?_⟩; have n0_ := Aside0.mk (Kd.R_below (by (with_reducible repeat (first | apply Kd.R_alloc | apply Kd.R_drewN | apply Kd.R_drew)); exact HO_7.out) hb); have n1_ := Aside0.mk (Kd.R_elder' (by (with_reducible repeat (first | apply Kd.R_alloc | apply Kd.R_drewN | apply Kd.R_drew)); exact HO_8.out) (Kd.R_base ho0) hb); have n2_ := Aside0.mk (Kd.R_lower (Kd.R_new' ho0 (Kd.R_lt (by (with_reducible repeat (first | apply Kd.R_alloc | apply Kd.R_drewN | apply Kd.R_drew)); exact HO_8.out))) (below_size (by repeat (first | (with_reducible first | exact HB.out | apply below_alloc | apply pw_below_drewN | apply below_drew1) | exact HB.out)))); have n3_ := Aside0.mk (below_step (by repeat (first | (with_reducible first | exact HB.out | apply below_alloc | apply pw_below_drewN | apply below_drew1) | exact HB.out)) hb); clear HO_7; clear HO_8; clear HB; have HO_7 := n0_; have HO_8 := n1_; have HO469 := n2_; have HB := n3_; clear n0_ n1_ n2_ n3_; (try clear hb); (try clear hb2); (try clear hk); (try clear hi); (try clear ho0); obtain ⟨Ao16, co16, eo16⟩ := Kd.R_slice HO469.out; subst eo16) | ((with_reducible refine gate_callee (f := 32) rfl ?_); refine goesL_ (some 42) rfl rfl Tryd.func32 (by kernel_rfl) rfl #[.slice Ao16 t467.length co16] rfl (by (try simp only [List.map_toArray, List.map_cons, List.map_nil]); first | done | rfl | (simp only [List.length_drop, List.length_take]; rfl)) ?_; (with_reducible refine (numnahref06_Set.calls kj5 _ _ t467 t470 _ ?side1 ?side2 A13.out).mono ?_); (case side1 => repeat (first | exact (Kd.R_reads' HO469.out).2.2 | (with_reducible refine Kd.C_alloc ?_ _) | (with_reducible refine Kd.C_drewN ?_ _) | (with_reducible refine Kd.C_drew ?_))); (case side2 => exact (Kd.R_reads' HO469.out).2.1); rintro e w' ⟨rfl, ⟨nd, rfl⟩⟩; refine ⟨_, rfl, ?_⟩))
   (try simp only [Act.put, List.setIfInBounds_toArray, List.set_cons_zero, List.set_cons_succ])
   go_cut [11, 12] (fun v11 v12 wc => ∃ (kq : Nat) (x11_13 : Int) (x12_13 : List (S48)), v11 = .int .i64 x11_13 ∧ Aside0 (numnahlaw06_WettingOrders.j3 kq t459 t460 x9_5 t467 x11_13 x12_13 = some r) ∧ Aside0 (kq ≤ kj5) ∧ Aside0 (Kd.R k48 48 wc w.heap.size (fun k_ => some k_ ≠ (v12 : Value).ownBlock) (.slice Ao8 t460.length co8) t460) ∧ Aside0 (Kd.R (Kd.int .i64) 3 wc w.heap.size (fun _ => True) (.slice Ao16 t467.length co16) t467) ∧ Aside0 (Kd.R k48 48 wc w.heap.size (fun k_ => some k_ ≠ ((.slice Ao8 t460.length co8) : Value).ownBlock) v12 x12_13) ∧ Aside0 (Below w.heap.size w wc))
   case first =>
    have H := HC14.out
    clear HC14
    have H' := Aside0.mk H
    clear H
    go_wp2
    go_loopg [11, 12, 13] kj5 (fun kq v11 v12 v13 w' => ∃ (x11_2 : Int) (x12_2 : List (S48)) (x13_2 : Int), v11 = .int .i64 x11_2 ∧ v13 = .int .i64 x13_2 ∧ Aside0 (numnahlaw06_WettingOrders.l0 kq t459 l2 t460 t463 x9_5 t467 x11_2 x12_2 x13_2 = some r) ∧ Aside0 (kq ≤ kj5) ∧ Aside0 (Kd.R k48 48 w' w.heap.size (fun k_ => some k_ ≠ (v12 : Value).ownBlock) (.slice Ao8 t460.length co8) t460) ∧ Aside0 (Kd.R (Kd.int .i64) 3 w' w.heap.size (fun k_ => some k_ ≠ ((.slice Ao16 t467.length co16) : Value).ownBlock) v464 t463) ∧ Aside0 (Kd.R (Kd.int .i64) 3 w' w.heap.size (fun k_ => some k_ ≠ (v464 : Value).ownBlock) (.slice Ao16 t467.length co16) t467) ∧ Aside0 (Kd.R k48 48 w' w.heap.size (fun k_ => some k_ ≠ ((.slice Ao8 t460.length co8) : Value).ownBlock) v12 x12_2) ∧ Aside0 (Below w.heap.size w w'))
    case atStart => exact ⟨(t470), (([] : List (S48))), (0), (by first | rfl | (simp; done) | (simp [*]; done)), (by first | rfl | (simp; done) | (simp [*]; done)), H', ⟨Nat.le_refl _⟩, ⟨by (with_reducible repeat (first | apply Kd.R_alloc | apply Kd.R_drewN | apply Kd.R_drew)); exact Kd.R_mono HO_7.out (fun _ hk => (by simp [Value.ownBlock]))⟩, ⟨by (with_reducible repeat (first | apply Kd.R_alloc | apply Kd.R_drewN | apply Kd.R_drew)); exact Kd.R_mono HO_8.out (fun _ hk => hk.2)⟩, ⟨by (with_reducible repeat (first | apply Kd.R_alloc | apply Kd.R_drewN | apply Kd.R_drew)); exact Kd.R_mono HO469.out (fun _ hk => hk.2)⟩, ⟨by first | exact Kd.R_nil _ _ _ _ _ | exact Kd.N_nil _ _ _ _ _ | exact Kd.V_nil _ _ _ _ _ | exact Kd.Q_nil _ _ _ _ _ | exact Kd.S_nil _ _ _ _ _⟩, ⟨by repeat (first | (with_reducible first | exact HB.out | apply below_alloc | apply pw_below_drewN | apply below_drew1) | exact HB.out)⟩⟩
    case round =>
     clear H'
     try clear c1
     try clear c2
     try clear p2
     try clear c3
     try clear p4
     try clear q4
     try clear hx4
     try clear qi4
     try clear c8
     try clear c10
     try clear c10b0
     try clear c10b1
     try clear c11
     try clear c11b0
     try clear c11b1
     try clear hx466_0
     try clear p2
     try clear p4
     try clear p466
     try clear q4
     try clear q466
     obtain ⟨x11_2, x12_2, x13_2, rfl, rfl, HA, HK2, HO_7, HO_8, HO_10, HO_12, HB⟩ := hrel
     cases gk with
     | zero => exact absurd HA.out (by simp [numnahlaw06_WettingOrders.l0])
     | succ k2 =>
      have H := HA.out
      clear HA
      simp only [numnahlaw06_WettingOrders.l0] at H
      by_cases c17 : x13_2 < t459
      ·rw [if_pos c17] at H
       have c17b0 : decide (x13_2 < t459) = true := decide_eq_true c17
       clear c17
       (first | rw [c17b0] | (simp only [i64_w, i32_w]; rw [c17b0]) | skip)
       have H' := Aside0.mk H
       clear H
       go_wp2
       go_loopg [14, 15] k2 (fun kq v14 v15 w' => ∃ (x14_3 : List (S48)) (x15_3 : Int), v15 = .int .i64 x15_3 ∧ Aside0 (numnahlaw06_WettingOrders.l1 kq t459 l2 t460 t463 x9_5 t467 x11_2 x12_2 x13_2 x14_3 x15_3 = some r) ∧ Aside0 (kq ≤ k2) ∧ Aside0 (Kd.R k48 48 w' w.heap.size (fun k_ => some k_ ≠ (u12 : Value).ownBlock ∧ some k_ ≠ (v14 : Value).ownBlock) (.slice Ao8 t460.length co8) t460) ∧ Aside0 (Kd.R (Kd.int .i64) 3 w' w.heap.size (fun k_ => some k_ ≠ ((.slice Ao16 t467.length co16) : Value).ownBlock) v464 t463) ∧ Aside0 (Kd.R (Kd.int .i64) 3 w' w.heap.size (fun k_ => some k_ ≠ (v464 : Value).ownBlock) (.slice Ao16 t467.length co16) t467) ∧ Aside0 (Kd.R k48 48 w' w.heap.size (fun k_ => some k_ ≠ ((.slice Ao8 t460.length co8) : Value).ownBlock ∧ some k_ ≠ (v14 : Value).ownBlock) u12 x12_2) ∧ Aside0 (Kd.R k48 48 w' w.heap.size (fun k_ => some k_ ≠ ((.slice Ao8 t460.length co8) : Value).ownBlock ∧ some k_ ≠ (u12 : Value).ownBlock) v14 x14_3) ∧ Aside0 (Below w.heap.size w w'))
       case atStart => exact ⟨(([] : List (S48))), (0), (by first | rfl | (simp; done) | (simp [*]; done)), H', ⟨Nat.le_refl _⟩, ⟨by (with_reducible repeat (first | apply Kd.R_alloc | apply Kd.R_drewN | apply Kd.R_drew)); exact Kd.R_mono HO_7.out (fun _ hk => ⟨hk, (by simp [Value.ownBlock])⟩)⟩, ⟨by (with_reducible repeat (first | apply Kd.R_alloc | apply Kd.R_drewN | apply Kd.R_drew)); exact HO_8.out⟩, ⟨by (with_reducible repeat (first | apply Kd.R_alloc | apply Kd.R_drewN | apply Kd.R_drew)); exact HO_10.out⟩, ⟨by (with_reducible repeat (first | apply Kd.R_alloc | apply Kd.R_drewN | apply Kd.R_drew)); exact Kd.R_mono HO_12.out (fun _ hk => ⟨hk, (by simp [Value.ownBlock])⟩)⟩, ⟨by first | exact Kd.R_nil _ _ _ _ _ | exact Kd.N_nil _ _ _ _ _ | exact Kd.V_nil _ _ _ _ _ | exact Kd.Q_nil _ _ _ _ _ | exact Kd.S_nil _ _ _ _ _⟩, ⟨by repeat (first | (with_reducible first | exact HB.out | apply below_alloc | apply pw_below_drewN | apply below_drew1) | exact HB.out)⟩⟩
       case round =>
        clear H'
        try clear c1
        try clear c2
        try clear p2
        try clear c3
        try clear p4
        try clear q4
        try clear hx4
        try clear qi4
        try clear c8
        try clear c10
        try clear c10b0
        try clear c10b1
        try clear c11
        try clear c11b0
        try clear c11b1
        try clear c17
        try clear c17b0
        try clear hx466_0
        try clear p2
        try clear p4
        try clear p466
        try clear q4
        try clear q466
        obtain ⟨x14_3, x15_3, rfl, HA, HK3, HO_7, HO_8, HO_10, HO_12, HO_14, HB⟩ := hrel
        cases gk with
        | zero => exact absurd HA.out (by simp [numnahlaw06_WettingOrders.l1])
        | succ k3 =>
         have H := HA.out
         clear HA
         simp only [numnahlaw06_WettingOrders.l1] at H
         by_cases c18 : x15_3 < t459
         ·rw [if_pos c18] at H
          have c18b0 : decide (x15_3 < t459) = true := decide_eq_true c18
          clear c18
          by_cases c19 : 0 ≤ x15_3
          ·rw [if_pos c19] at H
           have c19b0 : decide (0 ≤ x15_3) = true := decide_eq_true c19
           clear c19
           by_cases c20 : x15_3 < (t463.length : Int)
           ·rw [if_pos c20] at H
            have c20b0 : decide (x15_3 < (t463.length : Int)) = true := decide_eq_true c20
            clear c20
            have c21b0 := eq_true (of_decide_eq_true (by first | (with_reducible assumption) | assumption) : 0 ≤ x15_3)
            obtain ⟨ji22, hji22⟩ : ∃ j_ : Int, (shr .i64 x11_2 x15_3) = j_ := ⟨_, rfl⟩
            replace H : (if (Int.tmod (ji22) 2) = 1 then ((numnahref06_Count.f k3 (Go.bits .andNot .i64 (rd t463 x15_3) x11_2)).bind fun t472 => (if t472 = 1 then ((numnahref06_List.f k3 (Go.bits .andNot .i64 (rd t463 x15_3) x11_2)).bind fun t473 => (if 0 < (t473.length : Int) then (if x14_3.length < 8796093022208 then (numnahlaw06_WettingOrders.l1 k3 t459 l2 t460 t463 x9_5 t467 x11_2 x12_2 x13_2 (x14_3 ++ [(⟨x15_3, rd t473 0⟩ : S48)]) (wrap64 (x15_3 + 1))) else (none)) else (none))) else (numnahlaw06_WettingOrders.l1 k3 t459 l2 t460 t463 x9_5 t467 x11_2 x12_2 x13_2 x14_3 (wrap64 (x15_3 + 1))))) else (numnahlaw06_WettingOrders.l1 k3 t459 l2 t460 t463 x9_5 t467 x11_2 x12_2 x13_2 x14_3 (wrap64 (x15_3 + 1)))) = some r := by first | (rw [hji22] at H; exact H) | (simp only [hji22] at H ⊢; exact H)
            have hji22_ : (x11_2 / 2 ^ min x15_3.toNat 64) = ji22 := hji22
            have hji22z : x15_3 ≤ 64 → (x11_2 / 2 ^ x15_3.toNat) = ji22 := shr_small hji22
            by_cases c23 : (Int.tmod (ji22) 2) = 1
            ·rw [if_pos c23] at H
             have c23b0 : ((Int.tmod (ji22) 2) == 1) = true := beq_iff_eq.mpr c23
             have c23b1 : ((Int.tmod (ji22) 2) != 1) = false := bne_eq_false_iff_eq.mpr c23
             clear c23
             replace H := Option.bind_eq_some_iff.mp H
             obtain ⟨t472, A240, H⟩ := H
             replace H : (if t472 = 1 then ((numnahref06_List.f k3 (Go.bits .andNot .i64 (rd t463 x15_3) x11_2)).bind fun t473 => (if 0 < (t473.length : Int) then (if x14_3.length < 8796093022208 then (numnahlaw06_WettingOrders.l1 k3 t459 l2 t460 t463 x9_5 t467 x11_2 x12_2 x13_2 (x14_3 ++ [(⟨x15_3, rd t473 0⟩ : S48)]) (wrap64 (x15_3 + 1))) else (none)) else (none))) else (numnahlaw06_WettingOrders.l1 k3 t459 l2 t460 t463 x9_5 t467 x11_2 x12_2 x13_2 x14_3 (wrap64 (x15_3 + 1)))) = some r := H
             have A24 := Aside0.mk A240
             clear A240
             by_cases c25 : t472 = 1
             ·rw [if_pos c25] at H
              have c25b0 : (t472 == 1) = true := beq_iff_eq.mpr c25
              have c25b1 : (t472 != 1) = false := bne_eq_false_iff_eq.mpr c25
              clear c25
              replace H := Option.bind_eq_some_iff.mp H
              obtain ⟨t473, A260, H⟩ := H
              replace H : (if 0 < (t473.length : Int) then (if x14_3.length < 8796093022208 then (numnahlaw06_WettingOrders.l1 k3 t459 l2 t460 t463 x9_5 t467 x11_2 x12_2 x13_2 (x14_3 ++ [(⟨x15_3, rd t473 0⟩ : S48)]) (wrap64 (x15_3 + 1))) else (none)) else (none)) = some r := H
              have A26 := Aside0.mk A260
              clear A260
              by_cases c27 : 0 < (t473.length : Int)
              ·rw [if_pos c27] at H
               have c27b0 : decide (0 < (t473.length : Int)) = true := decide_eq_true c27
               have c27b1 : decide (0 < t473.length) = true := decide_eq_true (by omega)
               have c27n2 : (0 < t473.length) = True := eq_true (by omega)
               clear c27
               by_cases c28 : x14_3.length < 8796093022208
               ·rw [if_pos c28] at H
                have LMc28 := Aside0.mk c28
                clear c28
                obtain ⟨y477, hy477⟩ : ∃ y_ : List (S48), y_ = (x14_3 ++ [(⟨x15_3, rd t473 0⟩ : S48)]) := ⟨_, rfl⟩
                replace H : (numnahlaw06_WettingOrders.l1 k3 t459 l2 t460 t463 x9_5 t467 x11_2 x12_2 x13_2 y477 (wrap64 (x15_3 + 1))) = some r := by first | (rw [hy477]; with_reducible exact H) | (have H2_ := (Option.bind_some _ _).symm.trans H; rw [hy477]; with_reducible exact H2_) | (have H2_ := (Option.bind_some _ _).symm.trans H; with_reducible exact H2_) | with_reducible exact H | (rw [hy477]; exact H) | exact H
                have Ny477 := Aside0.mk hy477
                clear hy477
                have H' := Aside0.mk H
                clear H
                obtain ⟨Ao29, co29, eo29⟩ := Kd.R_slice HO_8.out
                subst eo29
                have p471 : 0 ≤ (x15_3 : Int) := of_decide_eq_true (by first | (with_reducible assumption) | assumption)
                have q471 : x15_3 < (t463.length : Int) := of_decide_eq_true (by first | (with_reducible assumption) | assumption)
                obtain ⟨ad471, e471, hx471_0⟩ := Kd.at_int (Kd.R_reads' HO_8.out).2.2 x15_3 p471 q471
                cases e471
                replace p471 := eq_true p471
                replace q471 := eq_true q471
                go_wp2_with (first | (go_at_call 41; (with_reducible refine (numnahref06_Count.calls k3 (Go.bits .andNot .i64 (rd t463 x15_3) x11_2) t472 _ A24.out).mono ?_); rintro e w30 ⟨rfl, hb⟩; have n0_ := Aside0.mk (Kd.R_below (by (with_reducible repeat (first | apply Kd.R_alloc | apply Kd.R_drewN | apply Kd.R_drew)); exact HO_7.out) hb); have n1_ := Aside0.mk (Kd.R_below (by (with_reducible repeat (first | apply Kd.R_alloc | apply Kd.R_drewN | apply Kd.R_drew)); exact HO_8.out) hb); have n2_ := Aside0.mk (Kd.R_below (by (with_reducible repeat (first | apply Kd.R_alloc | apply Kd.R_drewN | apply Kd.R_drew)); exact HO_10.out) hb); have n3_ := Aside0.mk (Kd.R_below (by (with_reducible repeat (first | apply Kd.R_alloc | apply Kd.R_drewN | apply Kd.R_drew)); exact HO_12.out) hb); have n4_ := Aside0.mk (Kd.R_below (by (with_reducible repeat (first | apply Kd.R_alloc | apply Kd.R_drewN | apply Kd.R_drew)); exact HO_14.out) hb); have n5_ := Aside0.mk (below_step (by repeat (first | (with_reducible first | exact HB.out | apply below_alloc | apply pw_below_drewN | apply below_drew1) | exact HB.out)) hb); clear HO_7; clear HO_8; clear HO_10; clear HO_12; clear HO_14; clear HB; have HO_7 := n0_; have HO_8 := n1_; have HO_10 := n2_; have HO_12 := n3_; have HO_14 := n4_; have HB := n5_; clear n0_ n1_ n2_ n3_ n4_ n5_; (try clear hb); (try clear hb2); (try clear hk); (try clear hi)) | ((with_reducible refine gate_callee (f := 25) rfl ?_); refine goesL_ (some 72) rfl rfl Tryd.func25 (by kernel_rfl) rfl #[.int .i64 (Go.bits .andNot .i64 (rd t463 x15_3) x11_2)] rfl (by (try simp only [List.map_toArray, List.map_cons, List.map_nil]); first | done | rfl | (simp only [List.length_drop, List.length_take]; rfl)) ?_; (with_reducible refine (numnahref06_List.calls k3 (Go.bits .andNot .i64 (rd t463 x15_3) x11_2) t473 _ A26.out).mono ?_); rintro e w31 ⟨v474, rfl, ho0, hb⟩; refine ⟨_, rfl, ?_⟩; have n0_ := Aside0.mk (Kd.R_below (by (with_reducible repeat (first | apply Kd.R_alloc | apply Kd.R_drewN | apply Kd.R_drew)); exact HO_7.out) hb); have n1_ := Aside0.mk (Kd.R_elder' (by (with_reducible repeat (first | apply Kd.R_alloc | apply Kd.R_drewN | apply Kd.R_drew)); exact HO_8.out) (Kd.R_base ho0) hb); have n2_ := Aside0.mk (Kd.R_elder' (by (with_reducible repeat (first | apply Kd.R_alloc | apply Kd.R_drewN | apply Kd.R_drew)); exact HO_10.out) (Kd.R_base ho0) hb); have n3_ := Aside0.mk (Kd.R_below (by (with_reducible repeat (first | apply Kd.R_alloc | apply Kd.R_drewN | apply Kd.R_drew)); exact HO_12.out) hb); have n4_ := Aside0.mk (Kd.R_below (by (with_reducible repeat (first | apply Kd.R_alloc | apply Kd.R_drewN | apply Kd.R_drew)); exact HO_14.out) hb); have n5_ := Aside0.mk (Kd.R_lower (Kd.R_new' (Kd.R_new' ho0 (Kd.R_lt (by (with_reducible repeat (first | apply Kd.R_alloc | apply Kd.R_drewN | apply Kd.R_drew)); exact HO_8.out))) (Kd.R_lt (by (with_reducible repeat (first | apply Kd.R_alloc | apply Kd.R_drewN | apply Kd.R_drew)); exact HO_10.out))) (below_size (by repeat (first | (with_reducible first | exact HB.out | apply below_alloc | apply pw_below_drewN | apply below_drew1) | exact HB.out)))); have n6_ := Aside0.mk (below_step (by repeat (first | (with_reducible first | exact HB.out | apply below_alloc | apply pw_below_drewN | apply below_drew1) | exact HB.out)) hb); clear HO_7; clear HO_8; clear HO_10; clear HO_12; clear HO_14; clear HB; have HO_7 := n0_; have HO_8 := n1_; have HO_10 := n2_; have HO_12 := n3_; have HO_14 := n4_; have HO475 := n5_; have HB := n6_; clear n0_ n1_ n2_ n3_ n4_ n5_ n6_; (try clear hb); (try clear hb2); (try clear hk); (try clear hi); (try clear ho0); obtain ⟨Ao32, co32, eo32⟩ := Kd.R_slice HO475.out; subst eo32; have p476 : 0 ≤ (0 : Int) := (by omega); have q476 : 0 < (t473.length : Int) := of_decide_eq_true (by first | (with_reducible assumption) | assumption); obtain ⟨ad476, e476, hx476_0⟩ := Kd.at_int (Kd.R_reads' HO475.out).2.2 0 p476 q476; cases e476; have qi476 : (0 < t473.length) = True := eq_true (by omega); (try rw [show ((0 : Int)).toNat = 0 from rfl] at hx476_0); (try rw [Addr.add_zero'] at hx476_0); replace p476 := eq_true p476; replace q476 := eq_true q476) | ((with_reducible refine gate_builtin (b := .append) (xs := #[.tmp 69, .tmp 76]) rfl ?_); at_builtin; refine Kd.R_append k48 (w0 := w) w.heap.size rfl (.tmp 69) (.tmp 76) 22 48 (.agg #[(.int .i64 0), (.int .i64 0)]) 16 rfl Tryd.underlying22 info48 rfl (by decide) (by omega) u14 x14_3 (⟨x15_3, rd t473 0⟩ : S48) [.int .i64 x15_3, .int .i64 (rd t473 0)] (fun k_ => some k_ ≠ (.slice Ao8 t460.length co8 : Value).ownBlock ∧ some k_ ≠ (u12 : Value).ownBlock) (fun _ => False) rfl rfl ?aP (fun _ hk => hk.elim) ?aF ?aO ?aB ?aS ?aL ?_; (case aP => exact k48_mkM _ _ _ (⟨x15_3, rd t473 0⟩ : S48)); (case aB => exact (by repeat (first | (with_reducible first | exact HB.out | apply below_alloc | apply pw_below_drewN | apply below_drew1) | exact HB.out))); (case aF => exact (fun k_ hk => ⟨Kd.fresh' (Kd.R_lt (by (with_reducible repeat (first | apply Kd.R_alloc | apply Kd.R_drewN | apply Kd.R_drew)); exact HO_7.out)) k_ hk, Kd.fresh' (Kd.R_lt (by (with_reducible repeat (first | apply Kd.R_alloc | apply Kd.R_drewN | apply Kd.R_drew)); exact HO_12.out)) k_ hk⟩)); (case aO => exact (by (with_reducible repeat (first | apply Kd.R_alloc | apply Kd.R_drewN | apply Kd.R_drew)); exact HO_14.out)); (case aS => exact (below_size (by repeat (first | (with_reducible first | exact HB.out | apply below_alloc | apply pw_below_drewN | apply below_drew1) | exact HB.out)))); (case aL => have := LMc28.out; omega); intro v478 w33 ho hb hg hat; rw [← Ny477.out] at ho; have n0_ := Aside0.mk (Kd.R_after (ok := (fun k_ => some k_ ≠ (u12 : Value).ownBlock)) (by (with_reducible repeat (first | apply Kd.R_alloc | apply Kd.R_drewN | apply Kd.R_drew)); exact HO_7.out) hg hat); have n1_ := Aside0.mk (Kd.R_over' (by (with_reducible repeat (first | apply Kd.R_alloc | apply Kd.R_drewN | apply Kd.R_drew)); exact HO_8.out) (Kd.R_typed (by (with_reducible repeat (first | apply Kd.R_alloc | apply Kd.R_drewN | apply Kd.R_drew)); exact HO_14.out)) (by decide) hg); have n2_ := Aside0.mk (Kd.R_over' (by (with_reducible repeat (first | apply Kd.R_alloc | apply Kd.R_drewN | apply Kd.R_drew)); exact HO_10.out) (Kd.R_typed (by (with_reducible repeat (first | apply Kd.R_alloc | apply Kd.R_drewN | apply Kd.R_drew)); exact HO_14.out)) (by decide) hg); have n3_ := Aside0.mk (Kd.R_after (ok := (fun k_ => some k_ ≠ (.slice Ao8 t460.length co8 : Value).ownBlock)) (by (with_reducible repeat (first | apply Kd.R_alloc | apply Kd.R_drewN | apply Kd.R_drew)); exact HO_12.out) hg hat); have n4_ := Aside0.mk (Kd.R_over' (by (with_reducible repeat (first | apply Kd.R_alloc | apply Kd.R_drewN | apply Kd.R_drew)); exact HO475.out) (Kd.R_typed (by (with_reducible repeat (first | apply Kd.R_alloc | apply Kd.R_drewN | apply Kd.R_drew)); exact HO_14.out)) (by decide) hg); have n5_ := Aside0.mk (hb); have n6_ := Aside0.mk (ho); clear HO_7; clear HO_8; clear HO_10; clear HO_12; clear HO475; clear HB; clear HO_14; have HO_7 := n0_; have HO_8 := n1_; have HO_10 := n2_; have HO_12 := n3_; have HO475 := n4_; have HB := n5_; have HO479 := n6_; clear n0_ n1_ n2_ n3_ n4_ n5_ n6_; clear ho hb hg hat))
                go_roundg k3
                case measure => have := HJ5.out; have := HK2.out; have := HK3.out; omega
                case rel => exact ⟨(y477), (wrap64 (x15_3 + 1)), (by first | rfl | (simp; done) | (simp [*]; done)), H', ⟨by have := HJ5.out; have := HK2.out; have := HK3.out; omega⟩, ⟨by (with_reducible repeat (first | apply Kd.R_alloc | apply Kd.R_drewN | apply Kd.R_drew)); exact HO_7.out⟩, ⟨by (with_reducible repeat (first | apply Kd.R_alloc | apply Kd.R_drewN | apply Kd.R_drew)); exact Kd.R_mono HO_8.out (fun _ hk => hk.1)⟩, ⟨by (with_reducible repeat (first | apply Kd.R_alloc | apply Kd.R_drewN | apply Kd.R_drew)); exact Kd.R_mono HO_10.out (fun _ hk => hk.1)⟩, ⟨by (with_reducible repeat (first | apply Kd.R_alloc | apply Kd.R_drewN | apply Kd.R_drew)); exact HO_12.out⟩, ⟨by (with_reducible repeat (first | apply Kd.R_alloc | apply Kd.R_drewN | apply Kd.R_drew)); exact HO479.out⟩, ⟨by repeat (first | (with_reducible first | exact HB.out | apply below_alloc | apply pw_below_drewN | apply below_drew1) | exact HB.out)⟩⟩
               ·rw [if_neg c28] at H
                exact absurd H (by simp)
              ·rw [if_neg c27] at H
               exact absurd H (by simp)
             ·rw [if_neg c25] at H
              have c25b0 : (t472 == 1) = false := beq_eq_false_iff_ne.mpr c25
              have c25b1 : (t472 != 1) = true := bne_iff_ne.mpr c25
              have H' := Aside0.mk H
              clear H
              obtain ⟨Ao34, co34, eo34⟩ := Kd.R_slice HO_8.out
              subst eo34
              have p471 : 0 ≤ (x15_3 : Int) := of_decide_eq_true (by first | (with_reducible assumption) | assumption)
              have q471 : x15_3 < (t463.length : Int) := of_decide_eq_true (by first | (with_reducible assumption) | assumption)
              obtain ⟨ad471, e471, hx471_0⟩ := Kd.at_int (Kd.R_reads' HO_8.out).2.2 x15_3 p471 q471
              cases e471
              replace p471 := eq_true p471
              replace q471 := eq_true q471
              go_wp2_with (first | (go_at_call 41; (with_reducible refine (numnahref06_Count.calls k3 (Go.bits .andNot .i64 (rd t463 x15_3) x11_2) t472 _ A24.out).mono ?_); rintro e w35 ⟨rfl, hb⟩; have n0_ := Aside0.mk (Kd.R_below (by (with_reducible repeat (first | apply Kd.R_alloc | apply Kd.R_drewN | apply Kd.R_drew)); exact HO_7.out) hb); have n1_ := Aside0.mk (Kd.R_below (by (with_reducible repeat (first | apply Kd.R_alloc | apply Kd.R_drewN | apply Kd.R_drew)); exact HO_8.out) hb); have n2_ := Aside0.mk (Kd.R_below (by (with_reducible repeat (first | apply Kd.R_alloc | apply Kd.R_drewN | apply Kd.R_drew)); exact HO_10.out) hb); have n3_ := Aside0.mk (Kd.R_below (by (with_reducible repeat (first | apply Kd.R_alloc | apply Kd.R_drewN | apply Kd.R_drew)); exact HO_12.out) hb); have n4_ := Aside0.mk (Kd.R_below (by (with_reducible repeat (first | apply Kd.R_alloc | apply Kd.R_drewN | apply Kd.R_drew)); exact HO_14.out) hb); have n5_ := Aside0.mk (below_step (by repeat (first | (with_reducible first | exact HB.out | apply below_alloc | apply pw_below_drewN | apply below_drew1) | exact HB.out)) hb); clear HO_7; clear HO_8; clear HO_10; clear HO_12; clear HO_14; clear HB; have HO_7 := n0_; have HO_8 := n1_; have HO_10 := n2_; have HO_12 := n3_; have HO_14 := n4_; have HB := n5_; clear n0_ n1_ n2_ n3_ n4_ n5_; (try clear hb); (try clear hb2); (try clear hk); (try clear hi)))
              go_roundg k3
              case measure => have := HJ5.out; have := HK2.out; have := HK3.out; omega
              case rel => exact ⟨(x14_3), (wrap64 (x15_3 + 1)), (by first | rfl | (simp; done) | (simp [*]; done)), H', ⟨by have := HJ5.out; have := HK2.out; have := HK3.out; omega⟩, ⟨by (with_reducible repeat (first | apply Kd.R_alloc | apply Kd.R_drewN | apply Kd.R_drew)); exact HO_7.out⟩, ⟨by (with_reducible repeat (first | apply Kd.R_alloc | apply Kd.R_drewN | apply Kd.R_drew)); exact HO_8.out⟩, ⟨by (with_reducible repeat (first | apply Kd.R_alloc | apply Kd.R_drewN | apply Kd.R_drew)); exact HO_10.out⟩, ⟨by (with_reducible repeat (first | apply Kd.R_alloc | apply Kd.R_drewN | apply Kd.R_drew)); exact HO_12.out⟩, ⟨by (with_reducible repeat (first | apply Kd.R_alloc | apply Kd.R_drewN | apply Kd.R_drew)); exact HO_14.out⟩, ⟨by repeat (first | (with_reducible first | exact HB.out | apply below_alloc | apply pw_below_drewN | apply below_drew1) | exact HB.out)⟩⟩
            ·rw [if_neg c23] at H
             have c23b0 : ((Int.tmod (ji22) 2) == 1) = false := beq_eq_false_iff_ne.mpr c23
             have c23b1 : ((Int.tmod (ji22) 2) != 1) = true := bne_iff_ne.mpr c23
             have H' := Aside0.mk H
             clear H
             obtain ⟨Ao36, co36, eo36⟩ := Kd.R_slice HO_8.out
             subst eo36
             have p471 : 0 ≤ (x15_3 : Int) := of_decide_eq_true (by first | (with_reducible assumption) | assumption)
             have q471 : x15_3 < (t463.length : Int) := of_decide_eq_true (by first | (with_reducible assumption) | assumption)
             obtain ⟨ad471, e471, hx471_0⟩ := Kd.at_int (Kd.R_reads' HO_8.out).2.2 x15_3 p471 q471
             cases e471
             replace p471 := eq_true p471
             replace q471 := eq_true q471
             go_wp2
             go_roundg k3
             case measure => have := HJ5.out; have := HK2.out; have := HK3.out; omega
             case rel => exact ⟨(x14_3), (wrap64 (x15_3 + 1)), (by first | rfl | (simp; done) | (simp [*]; done)), H', ⟨by have := HJ5.out; have := HK2.out; have := HK3.out; omega⟩, ⟨by (with_reducible repeat (first | apply Kd.R_alloc | apply Kd.R_drewN | apply Kd.R_drew)); exact HO_7.out⟩, ⟨by (with_reducible repeat (first | apply Kd.R_alloc | apply Kd.R_drewN | apply Kd.R_drew)); exact HO_8.out⟩, ⟨by (with_reducible repeat (first | apply Kd.R_alloc | apply Kd.R_drewN | apply Kd.R_drew)); exact HO_10.out⟩, ⟨by (with_reducible repeat (first | apply Kd.R_alloc | apply Kd.R_drewN | apply Kd.R_drew)); exact HO_12.out⟩, ⟨by (with_reducible repeat (first | apply Kd.R_alloc | apply Kd.R_drewN | apply Kd.R_drew)); exact HO_14.out⟩, ⟨by repeat (first | (with_reducible first | exact HB.out | apply below_alloc | apply pw_below_drewN | apply below_drew1) | exact HB.out)⟩⟩
           ·rw [if_neg c20] at H
            exact absurd H (by simp)
          ·rw [if_neg c19] at H
           exact absurd H (by simp)
         ·rw [if_neg c18] at H
          have c18b0 : decide (x15_3 < t459) = false := decide_eq_false c18
          clear c18
          by_cases c37 : (x14_3.length : Int) = 0
          ·rw [if_pos c37] at H
           have c37b0 : ((x14_3.length : Int) == 0) = true := beq_iff_eq.mpr c37
           have c37b1 : ((x14_3.length : Int) != 0) = false := bne_eq_false_iff_eq.mpr c37
           clear c37
           have H' := Aside0.mk H
           clear H
           obtain ⟨Ao38, co38, eo38⟩ := Kd.R_slice HO_14.out
           subst eo38
           go_wp2
           go_meet
           case rel => exact ⟨_, (x11_2), (x12_2), (by first | rfl | (simp; done) | (simp [*]; done)), H', ⟨by have := HJ5.out; have := HK2.out; have := HK3.out; first | omega | exact Nat.le_refl _⟩, ⟨by (with_reducible repeat (first | apply Kd.R_alloc | apply Kd.R_drewN | apply Kd.R_drew)); exact Kd.R_mono HO_7.out (fun _ hk => hk.1)⟩, ⟨by (with_reducible repeat (first | apply Kd.R_alloc | apply Kd.R_drewN | apply Kd.R_drew)); exact Kd.R_mono HO_10.out (fun _ hk => trivial)⟩, ⟨by (with_reducible repeat (first | apply Kd.R_alloc | apply Kd.R_drewN | apply Kd.R_drew)); exact Kd.R_mono HO_12.out (fun _ hk => hk.1)⟩, ⟨by repeat (first | (with_reducible first | exact HB.out | apply below_alloc | apply pw_below_drewN | apply below_drew1) | exact HB.out)⟩⟩
          ·rw [if_neg c37] at H
           have c37b0 : ((x14_3.length : Int) == 0) = false := beq_eq_false_iff_ne.mpr c37
           have c37b1 : ((x14_3.length : Int) != 0) = true := bne_iff_ne.mpr c37
           have c37b2 : ¬ (x14_3 = []) := fun h_ => c37 (by rw [h_]; rfl)
           by_cases c39 : (wrap64 (x13_2 + 1)) < (l2.length : Int)
           ·rw [if_pos c39] at H
            have c39b0 : decide ((wrap64 (x13_2 + 1)) < (l2.length : Int)) = true := decide_eq_true c39
            clear c39
            obtain ⟨ji40, hji40⟩ : ∃ j_ : Int, (wrap64 (x13_2 + 1)) = j_ := ⟨_, rfl⟩
            replace H : (if 0 ≤ (ji40) then ((numnahlaw06_mod.f (rd l2 (ji40)) (x14_3.length : Int)).bind fun t481 => (if 0 ≤ t481 then (if t481 < (x14_3.length : Int) then (if x12_2.length < 8796093022208 then (if 0 ≤ ((rd_T48 x14_3 t481).f1) then (numnahlaw06_WettingOrders.l0 k3 t459 l2 t460 t463 x9_5 t467 (Go.bits .or .i64 x11_2 (shl .i64 1 ((rd_T48 x14_3 t481).f1))) (x12_2 ++ [(⟨(rd_T48 x14_3 t481).f0, (rd_T48 x14_3 t481).f1⟩ : S48)]) ji40) else (none)) else (none)) else (none)) else (none))) else (none)) = some r := by first | (rw [hji40] at H; exact H) | (simp only [hji40] at H ⊢; exact H)
            (try rw [hji40] at c39b0)
            have hji40w : (IntKind.i64.wrap (x13_2 + 1)) = ji40 := (i64_w _).trans hji40
            by_cases c41 : 0 ≤ (ji40)
            ·rw [if_pos c41] at H
             have c41b0 : decide (0 ≤ (ji40)) = true := decide_eq_true c41
             clear c41
             replace H := Option.bind_eq_some_iff.mp H
             obtain ⟨t481, A420, H⟩ := H
             replace H : (if 0 ≤ t481 then (if t481 < (x14_3.length : Int) then (if x12_2.length < 8796093022208 then (if 0 ≤ ((rd_T48 x14_3 t481).f1) then (numnahlaw06_WettingOrders.l0 k3 t459 l2 t460 t463 x9_5 t467 (Go.bits .or .i64 x11_2 (shl .i64 1 ((rd_T48 x14_3 t481).f1))) (x12_2 ++ [(⟨(rd_T48 x14_3 t481).f0, (rd_T48 x14_3 t481).f1⟩ : S48)]) ji40) else (none)) else (none)) else (none)) else (none)) = some r := H
             have A42 := Aside0.mk A420
             clear A420
             by_cases c43 : 0 ≤ t481
             ·rw [if_pos c43] at H
              have c43b0 : decide (0 ≤ t481) = true := decide_eq_true c43
              clear c43
              by_cases c44 : t481 < (x14_3.length : Int)
              ·rw [if_pos c44] at H
               have c44b0 : decide (t481 < (x14_3.length : Int)) = true := decide_eq_true c44
               clear c44
               by_cases c45 : x12_2.length < 8796093022208
               ·rw [if_pos c45] at H
                have LMc45 := Aside0.mk c45
                clear c45
                obtain ⟨y483, hy483⟩ : ∃ y_ : List (S48), y_ = (x12_2 ++ [(⟨(rd_T48 x14_3 t481).f0, (rd_T48 x14_3 t481).f1⟩ : S48)]) := ⟨_, rfl⟩
                replace H : (if 0 ≤ ((rd_T48 x14_3 t481).f1) then (numnahlaw06_WettingOrders.l0 k3 t459 l2 t460 t463 x9_5 t467 (Go.bits .or .i64 x11_2 (shl .i64 1 ((rd_T48 x14_3 t481).f1))) y483 ji40) else (none)) = some r := by first | (rw [hy483]; with_reducible exact H) | (have H2_ := (Option.bind_some _ _).symm.trans H; rw [hy483]; with_reducible exact H2_) | (have H2_ := (Option.bind_some _ _).symm.trans H; with_reducible exact H2_) | with_reducible exact H | (rw [hy483]; exact H) | exact H
                have Ny483 := Aside0.mk hy483
                clear hy483
                by_cases c46 : 0 ≤ ((rd_T48 x14_3 t481).f1)
                ·rw [if_pos c46] at H
                 have c46b0 := eq_true c46
                 have c46b1 : decide (0 ≤ ((rd_T48 x14_3 t481).f1)) = true := decide_eq_true c46
                 clear c46
                 obtain ⟨ji47, hji47⟩ : ∃ j_ : Int, (shl .i64 1 ((rd_T48 x14_3 t481).f1)) = j_ := ⟨_, rfl⟩
                 replace H : (numnahlaw06_WettingOrders.l0 k3 t459 l2 t460 t463 x9_5 t467 (Go.bits .or .i64 x11_2 (ji47)) y483 ji40) = some r := by first | (rw [hji47] at H; exact H) | (simp only [hji47] at H ⊢; exact H)
                 (try rw [hji47] at A42)
                 have hji47_ : (IntKind.i64.wrap (1 * 2 ^ min ((rd_T48 x14_3 t481).f1).toNat 64)) = ji47 := hji47
                 have hji47z : ((rd_T48 x14_3 t481).f1) ≤ 64 → (IntKind.i64.wrap (1 * 2 ^ ((rd_T48 x14_3 t481).f1).toNat)) = ji47 := shl_small hji47
                 have hji47u : (IntKind.i64.wrap (2 ^ min ((rd_T48 x14_3 t481).f1).toNat 64)) = ji47 := by have h_ := hji47_; rw [Int.one_mul] at h_; exact h_
                 have hji47v : ((rd_T48 x14_3 t481).f1) ≤ 64 → (IntKind.i64.wrap (2 ^ ((rd_T48 x14_3 t481).f1).toNat)) = ji47 := fun hle_ => by have h_ := hji47z hle_; rw [Int.one_mul] at h_; exact h_
                 have hji47y : (wrap64 (1 * 2 ^ min ((rd_T48 x14_3 t481).f1).toNat 64)) = ji47 := (i64_w _).symm.trans hji47_
                 have hji47x : ((rd_T48 x14_3 t481).f1) ≤ 64 → (wrap64 (1 * 2 ^ ((rd_T48 x14_3 t481).f1).toNat)) = ji47 := fun h_ => (i64_w _).symm.trans (hji47z h_)
                 have H' := Aside0.mk H
                 clear H
                 obtain ⟨Ao48, co48, eo48⟩ := Kd.R_slice HO_14.out
                 subst eo48
                 have p480 : 0 ≤ ((ji40) : Int) := of_decide_eq_true (by first | (with_reducible assumption) | assumption)
                 have q480 : (ji40) < (l2.length : Int) := of_decide_eq_true (by first | (with_reducible assumption) | assumption)
                 obtain ⟨ad480, e480, hx480_0⟩ := Kd.at_int HR2.out (ji40) p480 q480
                 cases e480
                 replace hx480_0 := (HB.out.cell (World.block_lt_of_cell? w _ hx480_0)).trans hx480_0
                 replace p480 := eq_true p480
                 replace q480 := eq_true q480
                 go_wp2_with (first | ((with_reducible refine gate_callee (f := 33) rfl ?_); refine goesL_ (some 93) rfl rfl Tryd.func33 (by kernel_rfl) rfl #[.int .i64 (rd l2 (ji40)), .int .i64 (x14_3.length : Int)] rfl (by (try simp only [List.map_toArray, List.map_cons, List.map_nil]); first | done | (simp only [hji40]; rfl) | rfl | (simp only [List.length_drop, List.length_take]; rfl)) ?_; (with_reducible refine (numnahlaw06_mod.calls (rd l2 (ji40)) (x14_3.length : Int) t481 _ A42.out).mono ?_); rintro e w' ⟨rfl, ⟨nd, rfl⟩⟩; refine ⟨_, rfl, ?_⟩; have p482 : 0 ≤ (t481 : Int) := of_decide_eq_true (by first | (with_reducible assumption) | assumption); have q482 : t481 < (x14_3.length : Int) := of_decide_eq_true (by first | (with_reducible assumption) | assumption); obtain ⟨ad482, e482, hx482_0, hx482_1⟩ := at_T48 (Kd.R_reads' HO_14.out).2.2 t481 p482 q482; cases e482; replace p482 := eq_true p482; replace q482 := eq_true q482) | ((with_reducible refine gate_builtin (b := .append) (xs := #[.tmp 94, .tmp 99]) rfl ?_); at_builtin; refine Kd.R_append k48 (w0 := w) w.heap.size rfl (.tmp 94) (.tmp 99) 22 48 (.agg #[(.int .i64 0), (.int .i64 0)]) 16 rfl Tryd.underlying22 info48 rfl (by decide) (by omega) u12 x12_2 (⟨(rd_T48 x14_3 t481).f0, (rd_T48 x14_3 t481).f1⟩ : S48) [.int .i64 ((rd_T48 x14_3 t481).f0), .int .i64 ((rd_T48 x14_3 t481).f1)] (fun k_ => some k_ ≠ (.slice Ao8 t460.length co8 : Value).ownBlock ∧ some k_ ≠ (.slice (some ad482) x14_3.length co48 : Value).ownBlock) (fun _ => False) rfl rfl ?aP (fun _ hk => hk.elim) ?aF ?aO ?aB ?aS ?aL ?_; (case aP => exact k48_mkM _ _ _ (⟨(rd_T48 x14_3 t481).f0, (rd_T48 x14_3 t481).f1⟩ : S48)); (case aB => exact (by repeat (first | (with_reducible first | exact HB.out | apply below_alloc | apply pw_below_drewN | apply below_drew1) | exact HB.out))); (case aF => exact (fun k_ hk => ⟨Kd.fresh' (Kd.R_lt (by (with_reducible repeat (first | apply Kd.R_alloc | apply Kd.R_drewN | apply Kd.R_drew)); exact HO_7.out)) k_ hk, Kd.fresh' (Kd.R_lt (by (with_reducible repeat (first | apply Kd.R_alloc | apply Kd.R_drewN | apply Kd.R_drew)); exact HO_14.out)) k_ hk⟩)); (case aO => exact (by (with_reducible repeat (first | apply Kd.R_alloc | apply Kd.R_drewN | apply Kd.R_drew)); exact HO_12.out)); (case aS => exact (below_size (by repeat (first | (with_reducible first | exact HB.out | apply below_alloc | apply pw_below_drewN | apply below_drew1) | exact HB.out)))); (case aL => have := LMc45.out; omega); intro v484 w49 ho hb hg hat; rw [← Ny483.out] at ho; have n0_ := Aside0.mk (Kd.R_after (ok := (fun k_ => some k_ ≠ (.slice (some ad482) x14_3.length co48 : Value).ownBlock)) (by (with_reducible repeat (first | apply Kd.R_alloc | apply Kd.R_drewN | apply Kd.R_drew)); exact Kd.R_mono HO_7.out (fun _ hk => ⟨hk.2, hk.1⟩)) hg hat); have n1_ := Aside0.mk (Kd.R_over' (by (with_reducible repeat (first | apply Kd.R_alloc | apply Kd.R_drewN | apply Kd.R_drew)); exact HO_8.out) (Kd.R_typed (by (with_reducible repeat (first | apply Kd.R_alloc | apply Kd.R_drewN | apply Kd.R_drew)); exact HO_12.out)) (by decide) hg); have n2_ := Aside0.mk (Kd.R_over' (by (with_reducible repeat (first | apply Kd.R_alloc | apply Kd.R_drewN | apply Kd.R_drew)); exact HO_10.out) (Kd.R_typed (by (with_reducible repeat (first | apply Kd.R_alloc | apply Kd.R_drewN | apply Kd.R_drew)); exact HO_12.out)) (by decide) hg); have n3_ := Aside0.mk (Kd.R_after (ok := (fun k_ => some k_ ≠ (.slice Ao8 t460.length co8 : Value).ownBlock)) (by (with_reducible repeat (first | apply Kd.R_alloc | apply Kd.R_drewN | apply Kd.R_drew)); exact HO_14.out) hg hat); have n4_ := Aside0.mk (hb); have n5_ := Aside0.mk (ho); clear HO_7; clear HO_8; clear HO_10; clear HO_14; clear HB; clear HO_12; have HO_7 := n0_; have HO_8 := n1_; have HO_10 := n2_; have HO_14 := n3_; have HB := n4_; have HO485 := n5_; clear n0_ n1_ n2_ n3_ n4_ n5_; clear ho hb hg hat; have p486 : 0 ≤ (t481 : Int) := of_decide_eq_true (by first | (with_reducible assumption) | assumption); have q486 : t481 < (x14_3.length : Int) := of_decide_eq_true (by first | (with_reducible assumption) | assumption); obtain ⟨ad486, e486, hx486_0, hx486_1⟩ := at_T48 (Kd.R_reads' HO_14.out).2.2 t481 p486 q486; obtain rfl : ad482 = ad486 := (by injection e486); replace p486 := eq_true p486; replace q486 := eq_true q486))
                 go_roundg k3
                 case measure => have := HJ5.out; have := HK2.out; have := HK3.out; omega
                 case rel => exact ⟨(Go.bits .or .i64 x11_2 (ji47)), (y483), (ji40), (by first | rfl | (simp; done) | (simp only [← hji47] <;> (first | rfl | simp)) | (simp [*]; done)), (by first | rfl | (simp; done) | (simp only [← hji40] <;> (first | rfl | simp)) | (simp [*]; done)), H', ⟨by have := HJ5.out; have := HK2.out; have := HK3.out; omega⟩, ⟨by (with_reducible repeat (first | apply Kd.R_alloc | apply Kd.R_drewN | apply Kd.R_drew)); exact Kd.R_mono HO_7.out (fun _ hk => hk.2)⟩, ⟨by (with_reducible repeat (first | apply Kd.R_alloc | apply Kd.R_drewN | apply Kd.R_drew)); exact HO_8.out⟩, ⟨by (with_reducible repeat (first | apply Kd.R_alloc | apply Kd.R_drewN | apply Kd.R_drew)); exact HO_10.out⟩, ⟨by (with_reducible repeat (first | apply Kd.R_alloc | apply Kd.R_drewN | apply Kd.R_drew)); exact Kd.R_mono HO485.out (fun _ hk => hk.1)⟩, ⟨by repeat (first | (with_reducible first | exact HB.out | apply below_alloc | apply pw_below_drewN | apply below_drew1) | exact HB.out)⟩⟩
                ·rw [if_neg c46] at H
                 exact absurd H (by simp)
               ·rw [if_neg c45] at H
                exact absurd H (by simp)
              ·rw [if_neg c44] at H
               exact absurd H (by simp)
             ·rw [if_neg c43] at H
              exact absurd H (by simp)
            ·rw [if_neg c41] at H
             exact absurd H (by simp)
           ·rw [if_neg c39] at H
            have c39b0 : decide ((wrap64 (x13_2 + 1)) < (l2.length : Int)) = false := decide_eq_false c39
            clear c39
            by_cases c50 : 0 < (x14_3.length : Int)
            ·rw [if_pos c50] at H
             have c50b0 : decide (0 < (x14_3.length : Int)) = true := decide_eq_true c50
             have c50b1 : decide (0 < x14_3.length) = true := decide_eq_true (by omega)
             have c50n2 : (0 < x14_3.length) = True := eq_true (by omega)
             clear c50
             by_cases c51 : x12_2.length < 8796093022208
             ·rw [if_pos c51] at H
              have LMc51 := Aside0.mk c51
              clear c51
              obtain ⟨y488, hy488⟩ : ∃ y_ : List (S48), y_ = (x12_2 ++ [(⟨(rd_T48 x14_3 0).f0, (rd_T48 x14_3 0).f1⟩ : S48)]) := ⟨_, rfl⟩
              replace H : (if 0 ≤ ((rd_T48 x14_3 0).f1) then (numnahlaw06_WettingOrders.l0 k3 t459 l2 t460 t463 x9_5 t467 (Go.bits .or .i64 x11_2 (shl .i64 1 ((rd_T48 x14_3 0).f1))) y488 (wrap64 (x13_2 + 1))) else (none)) = some r := by first | (rw [hy488]; with_reducible exact H) | (have H2_ := (Option.bind_some _ _).symm.trans H; rw [hy488]; with_reducible exact H2_) | (have H2_ := (Option.bind_some _ _).symm.trans H; with_reducible exact H2_) | with_reducible exact H | (rw [hy488]; exact H) | exact H
              have Ny488 := Aside0.mk hy488
              clear hy488
              by_cases c52 : 0 ≤ ((rd_T48 x14_3 0).f1)
              ·rw [if_pos c52] at H
               have c52b0 := eq_true c52
               have c52b1 : decide (0 ≤ ((rd_T48 x14_3 0).f1)) = true := decide_eq_true c52
               clear c52
               obtain ⟨ji53, hji53⟩ : ∃ j_ : Int, (shl .i64 1 ((rd_T48 x14_3 0).f1)) = j_ := ⟨_, rfl⟩
               replace H : (numnahlaw06_WettingOrders.l0 k3 t459 l2 t460 t463 x9_5 t467 (Go.bits .or .i64 x11_2 (ji53)) y488 (wrap64 (x13_2 + 1))) = some r := by first | (rw [hji53] at H; exact H) | (simp only [hji53] at H ⊢; exact H)
               have hji53_ : (IntKind.i64.wrap (1 * 2 ^ min ((rd_T48 x14_3 0).f1).toNat 64)) = ji53 := hji53
               have hji53z : ((rd_T48 x14_3 0).f1) ≤ 64 → (IntKind.i64.wrap (1 * 2 ^ ((rd_T48 x14_3 0).f1).toNat)) = ji53 := shl_small hji53
               have hji53u : (IntKind.i64.wrap (2 ^ min ((rd_T48 x14_3 0).f1).toNat 64)) = ji53 := by have h_ := hji53_; rw [Int.one_mul] at h_; exact h_
               have hji53v : ((rd_T48 x14_3 0).f1) ≤ 64 → (IntKind.i64.wrap (2 ^ ((rd_T48 x14_3 0).f1).toNat)) = ji53 := fun hle_ => by have h_ := hji53z hle_; rw [Int.one_mul] at h_; exact h_
               have hji53y : (wrap64 (1 * 2 ^ min ((rd_T48 x14_3 0).f1).toNat 64)) = ji53 := (i64_w _).symm.trans hji53_
               have hji53x : ((rd_T48 x14_3 0).f1) ≤ 64 → (wrap64 (1 * 2 ^ ((rd_T48 x14_3 0).f1).toNat)) = ji53 := fun h_ => (i64_w _).symm.trans (hji53z h_)
               have H' := Aside0.mk H
               clear H
               obtain ⟨Ao54, co54, eo54⟩ := Kd.R_slice HO_14.out
               subst eo54
               have p487 : 0 ≤ (0 : Int) := (by omega)
               have q487 : 0 < (x14_3.length : Int) := of_decide_eq_true (by first | (with_reducible assumption) | assumption)
               obtain ⟨ad487, e487, hx487_0, hx487_1⟩ := at_T48 (Kd.R_reads' HO_14.out).2.2 0 p487 q487
               cases e487
               have qi487 : (0 < x14_3.length) = True := eq_true (by omega)
               (try rw [show ((0 : Int)).toNat = 0 from rfl] at hx487_0)
               (try rw [show 0 * 2 = 0 from rfl] at hx487_0)
               (try rw [Addr.add_zero'] at hx487_0)
               (try rw [show ((0 : Int)).toNat = 0 from rfl] at hx487_1)
               (try rw [show 0 * 2 = 0 from rfl] at hx487_1)
               (try rw [Addr.add_zero'] at hx487_1)
               replace p487 := eq_true p487
               replace q487 := eq_true q487
               go_wp2_with (first | ((with_reducible refine gate_builtin (b := .append) (xs := #[.tmp 94, .tmp 99]) rfl ?_); at_builtin; refine Kd.R_append k48 (w0 := w) w.heap.size rfl (.tmp 94) (.tmp 99) 22 48 (.agg #[(.int .i64 0), (.int .i64 0)]) 16 rfl Tryd.underlying22 info48 rfl (by decide) (by omega) u12 x12_2 (⟨(rd_T48 x14_3 0).f0, (rd_T48 x14_3 0).f1⟩ : S48) [.int .i64 ((rd_T48 x14_3 0).f0), .int .i64 ((rd_T48 x14_3 0).f1)] (fun k_ => some k_ ≠ (.slice Ao8 t460.length co8 : Value).ownBlock ∧ some k_ ≠ (.slice (some ad487) x14_3.length co54 : Value).ownBlock) (fun _ => False) rfl rfl ?aP (fun _ hk => hk.elim) ?aF ?aO ?aB ?aS ?aL ?_; (case aP => exact k48_mkM _ _ _ (⟨(rd_T48 x14_3 0).f0, (rd_T48 x14_3 0).f1⟩ : S48)); (case aB => exact (by repeat (first | (with_reducible first | exact HB.out | apply below_alloc | apply pw_below_drewN | apply below_drew1) | exact HB.out))); (case aF => exact (fun k_ hk => ⟨Kd.fresh' (Kd.R_lt (by (with_reducible repeat (first | apply Kd.R_alloc | apply Kd.R_drewN | apply Kd.R_drew)); exact HO_7.out)) k_ hk, Kd.fresh' (Kd.R_lt (by (with_reducible repeat (first | apply Kd.R_alloc | apply Kd.R_drewN | apply Kd.R_drew)); exact HO_14.out)) k_ hk⟩)); (case aO => exact (by (with_reducible repeat (first | apply Kd.R_alloc | apply Kd.R_drewN | apply Kd.R_drew)); exact HO_12.out)); (case aS => exact (below_size (by repeat (first | (with_reducible first | exact HB.out | apply below_alloc | apply pw_below_drewN | apply below_drew1) | exact HB.out)))); (case aL => have := LMc51.out; omega); intro v489 w55 ho hb hg hat; rw [← Ny488.out] at ho; have n0_ := Aside0.mk (Kd.R_after (ok := (fun k_ => some k_ ≠ (.slice (some ad487) x14_3.length co54 : Value).ownBlock)) (by (with_reducible repeat (first | apply Kd.R_alloc | apply Kd.R_drewN | apply Kd.R_drew)); exact Kd.R_mono HO_7.out (fun _ hk => ⟨hk.2, hk.1⟩)) hg hat); have n1_ := Aside0.mk (Kd.R_over' (by (with_reducible repeat (first | apply Kd.R_alloc | apply Kd.R_drewN | apply Kd.R_drew)); exact HO_8.out) (Kd.R_typed (by (with_reducible repeat (first | apply Kd.R_alloc | apply Kd.R_drewN | apply Kd.R_drew)); exact HO_12.out)) (by decide) hg); have n2_ := Aside0.mk (Kd.R_over' (by (with_reducible repeat (first | apply Kd.R_alloc | apply Kd.R_drewN | apply Kd.R_drew)); exact HO_10.out) (Kd.R_typed (by (with_reducible repeat (first | apply Kd.R_alloc | apply Kd.R_drewN | apply Kd.R_drew)); exact HO_12.out)) (by decide) hg); have n3_ := Aside0.mk (Kd.R_after (ok := (fun k_ => some k_ ≠ (.slice Ao8 t460.length co8 : Value).ownBlock)) (by (with_reducible repeat (first | apply Kd.R_alloc | apply Kd.R_drewN | apply Kd.R_drew)); exact HO_14.out) hg hat); have n4_ := Aside0.mk (hb); have n5_ := Aside0.mk (ho); clear HO_7; clear HO_8; clear HO_10; clear HO_14; clear HB; clear HO_12; have HO_7 := n0_; have HO_8 := n1_; have HO_10 := n2_; have HO_14 := n3_; have HB := n4_; have HO490 := n5_; clear n0_ n1_ n2_ n3_ n4_ n5_; clear ho hb hg hat; have p491 : 0 ≤ (0 : Int) := (by omega); have q491 : 0 < (x14_3.length : Int) := of_decide_eq_true (by first | (with_reducible assumption) | assumption); obtain ⟨ad491, e491, hx491_0, hx491_1⟩ := at_T48 (Kd.R_reads' HO_14.out).2.2 0 p491 q491; obtain rfl : ad487 = ad491 := (by injection e491); have qi491 : (0 < x14_3.length) = True := eq_true (by omega); (try rw [show ((0 : Int)).toNat = 0 from rfl] at hx491_0); (try rw [show 0 * 2 = 0 from rfl] at hx491_0); (try rw [Addr.add_zero'] at hx491_0); (try rw [show ((0 : Int)).toNat = 0 from rfl] at hx491_1); (try rw [show 0 * 2 = 0 from rfl] at hx491_1); (try rw [Addr.add_zero'] at hx491_1); replace p491 := eq_true p491; replace q491 := eq_true q491))
               go_roundg k3
               case measure => have := HJ5.out; have := HK2.out; have := HK3.out; omega
               case rel => exact ⟨(Go.bits .or .i64 x11_2 (ji53)), (y488), (wrap64 (x13_2 + 1)), (by first | rfl | (simp; done) | (simp only [← hji53] <;> (first | rfl | simp)) | (simp [*]; done)), (by first | rfl | (simp; done) | (simp [*]; done)), H', ⟨by have := HJ5.out; have := HK2.out; have := HK3.out; omega⟩, ⟨by (with_reducible repeat (first | apply Kd.R_alloc | apply Kd.R_drewN | apply Kd.R_drew)); exact Kd.R_mono HO_7.out (fun _ hk => hk.2)⟩, ⟨by (with_reducible repeat (first | apply Kd.R_alloc | apply Kd.R_drewN | apply Kd.R_drew)); exact HO_8.out⟩, ⟨by (with_reducible repeat (first | apply Kd.R_alloc | apply Kd.R_drewN | apply Kd.R_drew)); exact HO_10.out⟩, ⟨by (with_reducible repeat (first | apply Kd.R_alloc | apply Kd.R_drewN | apply Kd.R_drew)); exact Kd.R_mono HO490.out (fun _ hk => hk.1)⟩, ⟨by repeat (first | (with_reducible first | exact HB.out | apply below_alloc | apply pw_below_drewN | apply below_drew1) | exact HB.out)⟩⟩
              ·rw [if_neg c52] at H
               exact absurd H (by simp)
             ·rw [if_neg c51] at H
              exact absurd H (by simp)
            ·rw [if_neg c50] at H
             exact absurd H (by simp)
      ·rw [if_neg c17] at H
       have c17b0 : decide (x13_2 < t459) = false := decide_eq_false c17
       clear c17
       (first | rw [c17b0] | (simp only [i64_w, i32_w]; rw [c17b0]) | skip)
       have H' := Aside0.mk H
       clear H
       go_wp2
       go_meet
       case rel => exact ⟨_, (x11_2), (x12_2), (by first | rfl | (simp; done) | (simp [*]; done)), H', ⟨by have := HJ5.out; have := HK2.out; first | omega | exact Nat.le_refl _⟩, ⟨by (with_reducible repeat (first | apply Kd.R_alloc | apply Kd.R_drewN | apply Kd.R_drew)); exact HO_7.out⟩, ⟨by (with_reducible repeat (first | apply Kd.R_alloc | apply Kd.R_drewN | apply Kd.R_drew)); exact Kd.R_mono HO_10.out (fun _ hk => trivial)⟩, ⟨by (with_reducible repeat (first | apply Kd.R_alloc | apply Kd.R_drewN | apply Kd.R_drew)); exact HO_12.out⟩, ⟨by repeat (first | (with_reducible first | exact HB.out | apply below_alloc | apply pw_below_drewN | apply below_drew1) | exact HB.out)⟩⟩
   case rest =>
    clear HC14
    try clear c1
    try clear c2
    try clear p2
    try clear c3
    try clear c4
    try clear p4
    try clear q4
    try clear hx4
    try clear qi4
    try clear c5
    try clear p6
    try clear c8
    try clear c10
    try clear c10b0
    try clear c10b1
    try clear c11
    try clear c11b0
    try clear c11b1
    try clear c17
    try clear c17b0
    try clear c18
    try clear c18b0
    try clear c19
    try clear c19b0
    try clear c20
    try clear c20b0
    try clear c21
    try clear c21b0
    try clear c22
    try clear c23
    try clear c23b0
    try clear c23b1
    try clear c25
    try clear c25b0
    try clear c25b1
    try clear c27
    try clear c27b0
    try clear c27b1
    try clear c28
    try clear c32
    try clear c33
    try clear c37
    try clear c37b0
    try clear c37b1
    try clear c37b2
    try clear c39
    try clear c39b0
    try clear c41
    try clear c41b0
    try clear c43
    try clear c43b0
    try clear c44
    try clear c44b0
    try clear c45
    try clear c46
    try clear c46b0
    try clear c46b1
    try clear p46
    try clear q46
    try clear hx46
    try clear qi46
    try clear p47
    try clear q47
    try clear hx47
    try clear qi47
    try clear p48
    try clear q48
    try clear hx48
    try clear qi48
    try clear p49
    try clear q49
    try clear hx49
    try clear qi49
    try clear c50
    try clear c50b0
    try clear c50b1
    try clear c51
    try clear c52
    try clear c52b0
    try clear c52b1
    try clear hx466_0
    try clear hx471_0
    try clear hx476_0
    try clear hx480_0
    try clear hx482_0
    try clear hx482_1
    try clear hx486_0
    try clear hx486_1
    try clear hx487_0
    try clear hx487_1
    try clear hx491_0
    try clear hx491_1
    try clear p2
    try clear p4
    try clear p466
    try clear p471
    try clear p476
    try clear p480
    try clear p482
    try clear p486
    try clear p487
    try clear p491
    try clear q4
    try clear q466
    try clear q471
    try clear q476
    try clear q480
    try clear q482
    try clear q486
    try clear q487
    try clear q491
    obtain ⟨kq, x11_13, x12_13, rfl, HA, HJ13, HO_7, HO_10, HO_12, HB⟩ := hcut
    cases kq with
    | zero => exact absurd HA.out (by simp [numnahlaw06_WettingOrders.j3])
    | succ kj13 =>
     have H := HA.out
     clear HA
     simp only [numnahlaw06_WettingOrders.j3] at H
     replace H := Option.bind_eq_some_iff.mp H
     obtain ⟨⟨t492, t493, t494⟩, A560, H⟩ := H
     replace H : (if t494 = 0 then ((numnahref06_List.f kj13 x11_13).bind fun t497 => ((numnahlaw06_ints.f kj13 t492 t497).bind fun t500 => (numnahlaw06_WettingOrders.j4 kj13 t459 t460 x9_5 t467 x12_13 (!t500)))) else (numnahlaw06_WettingOrders.j4 kj13 t459 t460 x9_5 t467 x12_13 true)) = some r := H
     have A56 := Aside0.mk A560
     clear A560
     have HC57 := Aside0.mk H
     clear H
     go_upto_region 26 with (first | ((with_reducible refine gate_callee (f := 29) rfl ?_); refine goesL_ (some 113) rfl rfl Tryd.func29 (by kernel_rfl) rfl #[.int .i64 t459, .slice Ao8 t460.length co8, .slice Ao16 t467.length co16] rfl (by (try simp only [List.map_toArray, List.map_cons, List.map_nil]); first | done | rfl | (simp only [List.length_drop, List.length_take]; rfl)) ?_; (with_reducible refine (wetting_Close.calls t459 _ _ t460 _ _ t467 t492 t493 t494 _ ?side1 ?side2 ?side3 ?side4 A56.out ?sideT).mono ?_); (case sideT => exact tab_of (by repeat (first | (with_reducible first | exact HB.out | apply below_alloc | apply pw_below_drewN | apply below_drew1) | exact HB.out)) HT.out); (case side1 => repeat (first | exact (Kd.R_reads' HO_7.out).2.2 | (with_reducible refine Kd.C_alloc ?_ _) | (with_reducible refine Kd.C_drewN ?_ _) | (with_reducible refine Kd.C_drew ?_))); (case side2 => exact (Kd.R_reads' HO_7.out).2.1); (case side3 => repeat (first | exact (Kd.R_reads' HO_10.out).2.2 | (with_reducible refine Kd.C_alloc ?_ _) | (with_reducible refine Kd.C_drewN ?_ _) | (with_reducible refine Kd.C_drew ?_))); (case side4 => exact (Kd.R_reads' HO_10.out).2.1); rintro e w58 ⟨v495, rfl, ho0, hb⟩; refine ⟨_, rfl, ?_⟩; have n0_ := Aside0.mk (Kd.R_below (by (with_reducible repeat (first | apply Kd.R_alloc | apply Kd.R_drewN | apply Kd.R_drew)); exact HO_7.out) hb); have n1_ := Aside0.mk (Kd.R_elder' (by (with_reducible repeat (first | apply Kd.R_alloc | apply Kd.R_drewN | apply Kd.R_drew)); exact HO_10.out) (Kd.R_base ho0) hb); have n2_ := Aside0.mk (Kd.R_below (by (with_reducible repeat (first | apply Kd.R_alloc | apply Kd.R_drewN | apply Kd.R_drew)); exact HO_12.out) hb); have n3_ := Aside0.mk (Kd.R_lower (Kd.R_new' ho0 (Kd.R_lt (by (with_reducible repeat (first | apply Kd.R_alloc | apply Kd.R_drewN | apply Kd.R_drew)); exact HO_10.out))) (below_size (by repeat (first | (with_reducible first | exact HB.out | apply below_alloc | apply pw_below_drewN | apply below_drew1) | exact HB.out)))); have n4_ := Aside0.mk (below_step (by repeat (first | (with_reducible first | exact HB.out | apply below_alloc | apply pw_below_drewN | apply below_drew1) | exact HB.out)) hb); clear HO_7; clear HO_10; clear HO_12; clear HB; have HO_7 := n0_; have HO_10 := n1_; have HO_12 := n2_; have HO496 := n3_; have HB := n4_; clear n0_ n1_ n2_ n3_ n4_; (try clear hb); (try clear hb2); (try clear hk); (try clear hi); (try clear ho0)))
     (try simp only [Act.put, List.setIfInBounds_toArray, List.set_cons_zero, List.set_cons_succ])
     go_cut [125] (fun v125 wc => ∃ (kq : Nat) (x125_56 : Bool), v125 = .bool x125_56 ∧ Aside0 (numnahlaw06_WettingOrders.j4 kq t459 t460 x9_5 t467 x12_13 x125_56 = some r) ∧ Aside0 (kq ≤ kj13) ∧ Aside0 (Kd.R k48 48 wc w.heap.size (fun k_ => some k_ ≠ (u12 : Value).ownBlock) (.slice Ao8 t460.length co8) t460) ∧ Aside0 (Kd.R (Kd.int .i64) 3 wc w.heap.size (fun _ => True) (.slice Ao16 t467.length co16) t467) ∧ Aside0 (Kd.R k48 48 wc w.heap.size (fun k_ => some k_ ≠ ((.slice Ao8 t460.length co8) : Value).ownBlock) u12 x12_13) ∧ Aside0 (Below w.heap.size w wc))
     case first =>
      have H := HC57.out
      clear HC57
      by_cases c59 : t494 = 0
      ·rw [if_pos c59] at H
       have c59b0 : (t494 == 0) = true := beq_iff_eq.mpr c59
       have c59b1 : (t494 != 0) = false := bne_eq_false_iff_eq.mpr c59
       clear c59
       (first | rw [c59b0] | (simp only [i64_w, i32_w]; rw [c59b0]) | skip)
       replace H := Option.bind_eq_some_iff.mp H
       obtain ⟨t497, A600, H⟩ := H
       replace H : ((numnahlaw06_ints.f kj13 t492 t497).bind fun t500 => (numnahlaw06_WettingOrders.j4 kj13 t459 t460 x9_5 t467 x12_13 (!t500))) = some r := H
       have A60 := Aside0.mk A600
       clear A600
       replace H := Option.bind_eq_some_iff.mp H
       obtain ⟨t500, A610, H⟩ := H
       replace H : (numnahlaw06_WettingOrders.j4 kj13 t459 t460 x9_5 t467 x12_13 (!t500)) = some r := H
       have A61 := Aside0.mk A610
       clear A610
       have H' := Aside0.mk H
       clear H
       go_wp2_with (first | (go_at_call 25; (with_reducible refine (numnahref06_List.calls kj13 x11_13 t497 _ A60.out).mono ?_); rintro e w62 ⟨v498, rfl, ho0, hb⟩; have n0_ := Aside0.mk (Kd.R_below (by (with_reducible repeat (first | apply Kd.R_alloc | apply Kd.R_drewN | apply Kd.R_drew)); exact HO_7.out) hb); have n1_ := Aside0.mk (Kd.R_elder' (by (with_reducible repeat (first | apply Kd.R_alloc | apply Kd.R_drewN | apply Kd.R_drew)); exact HO_10.out) (Kd.R_base ho0) hb); have n2_ := Aside0.mk (Kd.R_below (by (with_reducible repeat (first | apply Kd.R_alloc | apply Kd.R_drewN | apply Kd.R_drew)); exact HO_12.out) hb); have n3_ := Aside0.mk (Kd.R_elder' (by (with_reducible repeat (first | apply Kd.R_alloc | apply Kd.R_drewN | apply Kd.R_drew)); exact HO496.out) (Kd.R_base ho0) hb); have n4_ := Aside0.mk (Kd.R_lower (Kd.R_new' (Kd.R_new' ho0 (Kd.R_lt (by (with_reducible repeat (first | apply Kd.R_alloc | apply Kd.R_drewN | apply Kd.R_drew)); exact HO_10.out))) (Kd.R_lt (by (with_reducible repeat (first | apply Kd.R_alloc | apply Kd.R_drewN | apply Kd.R_drew)); exact HO496.out))) (below_size (by repeat (first | (with_reducible first | exact HB.out | apply below_alloc | apply pw_below_drewN | apply below_drew1) | exact HB.out)))); have n5_ := Aside0.mk (below_step (by repeat (first | (with_reducible first | exact HB.out | apply below_alloc | apply pw_below_drewN | apply below_drew1) | exact HB.out)) hb); clear HO_7; clear HO_10; clear HO_12; clear HO496; clear HB; have HO_7 := n0_; have HO_10 := n1_; have HO_12 := n2_; have HO496 := n3_; have HO499 := n4_; have HB := n5_; clear n0_ n1_ n2_ n3_ n4_ n5_; (try clear hb); (try clear hb2); (try clear hk); (try clear hi); (try clear ho0); obtain ⟨Ao63, co63, eo63⟩ := Kd.R_slice HO496.out; subst eo63; obtain ⟨Ao64, co64, eo64⟩ := Kd.R_slice HO499.out; subst eo64) | (go_at_call 24; (with_reducible refine (numnahlaw06_ints.calls kj13 _ _ t492 _ _ t497 t500 _ ?side1 ?side2 ?side3 ?side4 A61.out).mono ?_); (case side1 => repeat (first | exact (Kd.R_reads' HO496.out).2.2 | (with_reducible refine Kd.C_alloc ?_ _) | (with_reducible refine Kd.C_drewN ?_ _) | (with_reducible refine Kd.C_drew ?_))); (case side2 => exact (Kd.R_reads' HO496.out).2.1); (case side3 => repeat (first | exact (Kd.R_reads' HO499.out).2.2 | (with_reducible refine Kd.C_alloc ?_ _) | (with_reducible refine Kd.C_drewN ?_ _) | (with_reducible refine Kd.C_drew ?_))); (case side4 => exact (Kd.R_reads' HO499.out).2.1); rintro e w' ⟨rfl, ⟨nd, rfl⟩⟩))
       go_meet
       case rel => exact ⟨_, (!t500), (by first | rfl | (simp; done) | (simp [*]; done)), H', ⟨by have := HJ5.out; have := HJ13.out; first | omega | exact Nat.le_refl _⟩, ⟨by (with_reducible repeat (first | apply Kd.R_alloc | apply Kd.R_drewN | apply Kd.R_drew)); exact HO_7.out⟩, ⟨by (with_reducible repeat (first | apply Kd.R_alloc | apply Kd.R_drewN | apply Kd.R_drew)); exact Kd.R_mono HO_10.out (fun _ hk => trivial)⟩, ⟨by (with_reducible repeat (first | apply Kd.R_alloc | apply Kd.R_drewN | apply Kd.R_drew)); exact HO_12.out⟩, ⟨by repeat (first | (with_reducible first | exact HB.out | apply below_alloc | apply pw_below_drewN | apply below_drew1) | exact HB.out)⟩⟩
      ·rw [if_neg c59] at H
       have c59b0 : (t494 == 0) = false := beq_eq_false_iff_ne.mpr c59
       have c59b1 : (t494 != 0) = true := bne_iff_ne.mpr c59
       (first | rw [c59b0] | (simp only [i64_w, i32_w]; rw [c59b0]) | skip)
       have H' := Aside0.mk H
       clear H
       go_wp2
       go_meet
       case rel => exact ⟨_, (true), (by first | rfl | (simp; done) | (simp [*]; done)), H', ⟨by have := HJ5.out; have := HJ13.out; first | omega | exact Nat.le_refl _⟩, ⟨by (with_reducible repeat (first | apply Kd.R_alloc | apply Kd.R_drewN | apply Kd.R_drew)); exact HO_7.out⟩, ⟨by (with_reducible repeat (first | apply Kd.R_alloc | apply Kd.R_drewN | apply Kd.R_drew)); exact Kd.R_mono HO_10.out (fun _ hk => trivial)⟩, ⟨by (with_reducible repeat (first | apply Kd.R_alloc | apply Kd.R_drewN | apply Kd.R_drew)); exact HO_12.out⟩, ⟨by repeat (first | (with_reducible first | exact HB.out | apply below_alloc | apply pw_below_drewN | apply below_drew1) | exact HB.out)⟩⟩
     case rest =>
      clear HC57
      try clear c1
      try clear c2
      try clear p2
      try clear c3
      try clear c4
      try clear p4
      try clear q4
      try clear hx4
      try clear qi4
      try clear c5
      try clear p6
      try clear c8
      try clear c10
      try clear c10b0
      try clear c10b1
      try clear c11
      try clear c11b0
      try clear c11b1
      try clear c17
      try clear c17b0
      try clear c18
      try clear c18b0
      try clear c19
      try clear c19b0
      try clear c20
      try clear c20b0
      try clear c21
      try clear c21b0
      try clear c22
      try clear c23
      try clear c23b0
      try clear c23b1
      try clear c25
      try clear c25b0
      try clear c25b1
      try clear c27
      try clear c27b0
      try clear c27b1
      try clear c28
      try clear c29
      try clear c32
      try clear c33
      try clear c37
      try clear c37b0
      try clear c37b1
      try clear c37b2
      try clear c39
      try clear c39b0
      try clear c41
      try clear c41b0
      try clear c43
      try clear c43b0
      try clear c44
      try clear c44b0
      try clear c45
      try clear c46
      try clear c46b0
      try clear c46b1
      try clear p46
      try clear q46
      try clear hx46
      try clear qi46
      try clear p47
      try clear q47
      try clear hx47
      try clear qi47
      try clear p48
      try clear q48
      try clear hx48
      try clear qi48
      try clear p49
      try clear q49
      try clear hx49
      try clear qi49
      try clear c50
      try clear c50b0
      try clear c50b1
      try clear c51
      try clear c52
      try clear c52b0
      try clear c52b1
      try clear c59
      try clear c59b0
      try clear c59b1
      try clear p64
      try clear hx466_0
      try clear hx471_0
      try clear hx476_0
      try clear hx480_0
      try clear hx482_0
      try clear hx482_1
      try clear hx486_0
      try clear hx486_1
      try clear hx487_0
      try clear hx487_1
      try clear hx491_0
      try clear hx491_1
      try clear p2
      try clear p4
      try clear p46
      try clear p466
      try clear p47
      try clear p471
      try clear p476
      try clear p48
      try clear p480
      try clear p482
      try clear p486
      try clear p487
      try clear p49
      try clear p491
      try clear p6
      try clear q4
      try clear q46
      try clear q466
      try clear q47
      try clear q471
      try clear q476
      try clear q48
      try clear q480
      try clear q482
      try clear q486
      try clear q487
      try clear q49
      try clear q491
      obtain ⟨kq, x125_56, rfl, HA, HJ56, HO_7, HO_10, HO_12, HB⟩ := hcut
      cases kq with
      | zero => exact absurd HA.out (by simp [numnahlaw06_WettingOrders.j4])
      | succ kj56 =>
       have H := HA.out
       clear HA
       simp only [numnahlaw06_WettingOrders.j4] at H
       by_cases c65 : x125_56 = true
       ·subst c65
        have H1 : (some false) = some r := by rw [if_pos rfl] at H; exact H
        clear H
        have H := H1
        clear H1
        obtain rfl := Option.some.inj H
        go_wp2
        go_ret
        exact ⟨by first | rfl | (simp [errW_none, errW_some] <;> rfl) | (simp [*, errW_none, errW_some] <;> rfl), by repeat (first | (with_reducible first | exact HB.out | apply below_alloc | apply pw_below_drewN | apply below_drew1) | exact HB.out)⟩
       ·replace c65 := Bool.eq_false_iff.mpr c65
        subst c65
        have H1 : (numnahlaw06_WettingOrders.l2 kj56 t459 t460 x9_5 t467 x12_13 0) = some r := by rw [if_neg (show ¬ (false = true) by decide)] at H; exact H
        clear H
        have H := H1
        clear H1
        have H' := Aside0.mk H
        clear H
        go_wp2
        go_loopg [21] kj56 (fun kq v21 w' => ∃ (x21_4 : Int), v21 = .int .i64 x21_4 ∧ Aside0 (numnahlaw06_WettingOrders.l2 kq t459 t460 x9_5 t467 x12_13 x21_4 = some r) ∧ Aside0 (kq ≤ kj56) ∧ Aside0 (Kd.R k48 48 w' w.heap.size (fun k_ => some k_ ≠ (u12 : Value).ownBlock) (.slice Ao8 t460.length co8) t460) ∧ Aside0 (Kd.R (Kd.int .i64) 3 w' w.heap.size (fun _ => True) (.slice Ao16 t467.length co16) t467) ∧ Aside0 (Kd.R k48 48 w' w.heap.size (fun k_ => some k_ ≠ ((.slice Ao8 t460.length co8) : Value).ownBlock) u12 x12_13) ∧ Aside0 (Below w.heap.size w w'))
        case atStart => exact ⟨(0), (by first | rfl | (simp; done) | (simp [*]; done)), H', ⟨Nat.le_refl _⟩, ⟨by (with_reducible repeat (first | apply Kd.R_alloc | apply Kd.R_drewN | apply Kd.R_drew)); exact HO_7.out⟩, ⟨by (with_reducible repeat (first | apply Kd.R_alloc | apply Kd.R_drewN | apply Kd.R_drew)); exact HO_10.out⟩, ⟨by (with_reducible repeat (first | apply Kd.R_alloc | apply Kd.R_drewN | apply Kd.R_drew)); exact HO_12.out⟩, ⟨by repeat (first | (with_reducible first | exact HB.out | apply below_alloc | apply pw_below_drewN | apply below_drew1) | exact HB.out)⟩⟩
        case round =>
         clear H'
         try clear c1
         try clear c2
         try clear p2
         try clear c3
         try clear c4
         try clear p4
         try clear q4
         try clear hx4
         try clear qi4
         try clear c5
         try clear c6
         try clear p6
         try clear c8
         try clear c10
         try clear c10b0
         try clear c10b1
         try clear c11
         try clear c11b0
         try clear c11b1
         try clear c17
         try clear c17b0
         try clear c18
         try clear c18b0
         try clear c19
         try clear c19b0
         try clear c20
         try clear c20b0
         try clear c21
         try clear c21b0
         try clear c22
         try clear c23
         try clear c23b0
         try clear c23b1
         try clear c25
         try clear c25b0
         try clear c25b1
         try clear c27
         try clear c27b0
         try clear c27b1
         try clear c28
         try clear c29
         try clear c32
         try clear c33
         try clear c37
         try clear c37b0
         try clear c37b1
         try clear c37b2
         try clear c39
         try clear c39b0
         try clear c41
         try clear c41b0
         try clear c43
         try clear c43b0
         try clear c44
         try clear c44b0
         try clear c45
         try clear c46
         try clear c46b0
         try clear c46b1
         try clear p46
         try clear q46
         try clear hx46
         try clear qi46
         try clear p47
         try clear q47
         try clear hx47
         try clear qi47
         try clear p48
         try clear q48
         try clear hx48
         try clear qi48
         try clear p49
         try clear q49
         try clear hx49
         try clear qi49
         try clear c50
         try clear c50b0
         try clear c50b1
         try clear c51
         try clear c52
         try clear c52b0
         try clear c52b1
         try clear c59
         try clear c59b0
         try clear c59b1
         try clear p64
         try clear c65
         try clear hx466_0
         try clear hx471_0
         try clear hx476_0
         try clear hx480_0
         try clear hx482_0
         try clear hx482_1
         try clear hx486_0
         try clear hx486_1
         try clear hx487_0
         try clear hx487_1
         try clear hx491_0
         try clear hx491_1
         try clear p2
         try clear p4
         try clear p46
         try clear p466
         try clear p47
         try clear p471
         try clear p476
         try clear p48
         try clear p480
         try clear p482
         try clear p486
         try clear p487
         try clear p49
         try clear p491
         try clear p6
         try clear p64
         try clear q4
         try clear q46
         try clear q466
         try clear q47
         try clear q471
         try clear q476
         try clear q48
         try clear q480
         try clear q482
         try clear q486
         try clear q487
         try clear q49
         try clear q491
         obtain ⟨x21_4, rfl, HA, HK4, HO_7, HO_10, HO_12, HB⟩ := hrel
         cases gk with
         | zero => exact absurd HA.out (by simp [numnahlaw06_WettingOrders.l2])
         | succ k4 =>
          have H := HA.out
          clear HA
          simp only [numnahlaw06_WettingOrders.l2] at H
          by_cases c66 : x21_4 ≤ (x12_13.length : Int)
          ·rw [if_pos c66] at H
           have c66b0 : decide (x21_4 ≤ (x12_13.length : Int)) = true := decide_eq_true c66
           clear c66
           by_cases c67 : 0 ≤ x21_4
           ·rw [if_pos c67] at H
            have c67b0 := eq_true c67
            have c67b1 : decide (0 ≤ x21_4) = true := decide_eq_true c67
            clear c67
            have c68b0 := eq_true (of_decide_eq_true (by first | (with_reducible assumption) | assumption) : x21_4 ≤ (x12_13.length : Int))
            obtain ⟨y501, hy501⟩ : ∃ y_ : List (S48), y_ = (x12_13.take (x21_4 : Int).toNat) := ⟨_, rfl⟩
            replace H : ((wetting_Check.f t459 t460 t467 y501).bind fun t505 => (if t505 = 0 then (numnahlaw06_WettingOrders.l2 k4 t459 t460 x9_5 t467 x12_13 (wrap64 (x21_4 + 1))) else (some false))) = some r := by first | (rw [hy501]; with_reducible exact H) | (have H2_ := (Option.bind_some _ _).symm.trans H; rw [hy501]; with_reducible exact H2_) | (have H2_ := (Option.bind_some _ _).symm.trans H; with_reducible exact H2_) | with_reducible exact H | (rw [hy501]; exact H) | exact H
            have Ny501 := Aside0.mk hy501
            clear hy501
            replace H := Option.bind_eq_some_iff.mp H
            obtain ⟨t505, A690, H⟩ := H
            replace H : (if t505 = 0 then (numnahlaw06_WettingOrders.l2 k4 t459 t460 x9_5 t467 x12_13 (wrap64 (x21_4 + 1))) else (some false)) = some r := H
            have A69 := Aside0.mk A690
            clear A690
            by_cases c70 : t505 = 0
            ·rw [if_pos c70] at H
             have c70b0 : (t505 == 0) = true := beq_iff_eq.mpr c70
             have c70b1 : (t505 != 0) = false := bne_eq_false_iff_eq.mpr c70
             clear c70
             have H' := Aside0.mk H
             clear H
             obtain ⟨Ao71, co71, eo71⟩ := Kd.R_slice HO_12.out
             subst eo71
             have q72 : (x21_4 : Int) ≤ ((x12_13.length : Int) : Int) := of_decide_eq_true (by first | (with_reducible assumption) | assumption)
             obtain ⟨i072, hi072, _, hsz72, _⟩ := info_parts info48
             have hroom72 : x12_13.length ≤ co71 := (Kd.R_reads' HO_12.out).2.1
             have hC72 : Kd.C k48 _ Ao71 x12_13.length x12_13 := (Kd.R_reads' HO_12.out).2.2
             have hcut72 := cut_to (P := Tryd.prog) 22 48 .i64 Tryd.underlying22 hi072 Ao71 x12_13.length co71 x21_4 (of_decide_eq_true (by first | (with_reducible assumption) | assumption)) q72 hroom72
             have hr72 := Kd.C_take (m := (x21_4 : Int).toNat) hC72 (by omega)
             have hy72 : y501.length = (x21_4 : Int).toNat := (by rw [Ny501.out, List.length_take]; omega)
             rw [← Ny501.out] at hr72
             rw [← hy72] at hcut72
             have HR504 := Aside0.mk hr72
             have HC504 := Aside0.mk (show y501.length ≤ co71 from by omega)
             clear hr72 hC72 hroom72 hi072 hsz72
             have KY72 := Aside0.mk hy72
             clear hy72
             have KL72 := Aside0.mk (show (x21_4 : Int).toNat ≤ x12_13.length from by omega)
             replace q72 := eq_true q72
             go_wp2_with (first | ((with_reducible refine gate_callee (f := 38) rfl ?_); refine goesL_ (some 138) rfl rfl Tryd.func38 (by kernel_rfl) rfl #[.int .i64 t459, .slice Ao8 t460.length co8, .slice Ao16 t467.length co16, .slice Ao71 y501.length co71] rfl (by (try simp only [List.map_toArray, List.map_cons, List.map_nil]); first | done | rfl | (simp only [List.length_drop, List.length_take]; rfl)) ?_; (with_reducible refine (wetting_Check.calls t459 _ _ t460 _ _ t467 _ _ y501 t505 _ ?side1 ?side2 ?side3 ?side4 ?side5 ?side6 A69.out ?sideT).mono ?_); (case sideT => exact tab_of (by repeat (first | (with_reducible first | exact HB.out | apply below_alloc | apply pw_below_drewN | apply below_drew1) | exact HB.out)) HT.out); (case side1 => repeat (first | exact (Kd.R_reads' HO_7.out).2.2 | (with_reducible refine Kd.C_alloc ?_ _) | (with_reducible refine Kd.C_drewN ?_ _) | (with_reducible refine Kd.C_drew ?_))); (case side2 => exact (Kd.R_reads' HO_7.out).2.1); (case side3 => repeat (first | exact (Kd.R_reads' HO_10.out).2.2 | (with_reducible refine Kd.C_alloc ?_ _) | (with_reducible refine Kd.C_drewN ?_ _) | (with_reducible refine Kd.C_drew ?_))); (case side4 => exact (Kd.R_reads' HO_10.out).2.1); (case side5 => repeat (first | exact (by repeat (first | (with_reducible exact HR504.out) | (with_reducible refine Kd.C_alloc ?_ _) | (with_reducible refine Kd.C_drewN ?_ _) | (with_reducible refine Kd.C_drew ?_) | exact HR504.out)) | (with_reducible refine Kd.C_alloc ?_ _) | (with_reducible refine Kd.C_drewN ?_ _) | (with_reducible refine Kd.C_drew ?_))); (case side6 => exact HC504.out); rintro e w73 ⟨rfl, hb⟩; refine ⟨_, rfl, ?_⟩; have n0_ := Aside0.mk (Kd.R_below (by (with_reducible repeat (first | apply Kd.R_alloc | apply Kd.R_drewN | apply Kd.R_drew)); exact HO_7.out) hb); have n1_ := Aside0.mk (Kd.R_below (by (with_reducible repeat (first | apply Kd.R_alloc | apply Kd.R_drewN | apply Kd.R_drew)); exact HO_10.out) hb); have n2_ := Aside0.mk (Kd.R_below (by (with_reducible repeat (first | apply Kd.R_alloc | apply Kd.R_drewN | apply Kd.R_drew)); exact HO_12.out) hb); have n3_ := Aside0.mk (Kd.C_below (by repeat (first | (with_reducible exact HR504.out) | (with_reducible refine Kd.C_alloc ?_ _) | (with_reducible refine Kd.C_drewN ?_ _) | (with_reducible refine Kd.C_drew ?_) | exact HR504.out)) hb); have n4_ := Aside0.mk (below_step (by repeat (first | (with_reducible first | exact HB.out | apply below_alloc | apply pw_below_drewN | apply below_drew1) | exact HB.out)) hb); clear HO_7; clear HO_10; clear HO_12; clear HR504; clear HB; have HO_7 := n0_; have HO_10 := n1_; have HO_12 := n2_; have HR504 := n3_; have HB := n4_; clear n0_ n1_ n2_ n3_ n4_; (try clear hb); (try clear hb2); (try clear hk); (try clear hi)))
             go_roundg k4
             case measure => have := HJ5.out; have := HJ13.out; have := HJ56.out; have := HK4.out; omega
             case rel => exact ⟨(wrap64 (x21_4 + 1)), (by first | rfl | (simp; done) | (simp [*]; done)), H', ⟨by have := HJ5.out; have := HJ13.out; have := HJ56.out; have := HK4.out; omega⟩, ⟨by (with_reducible repeat (first | apply Kd.R_alloc | apply Kd.R_drewN | apply Kd.R_drew)); exact HO_7.out⟩, ⟨by (with_reducible repeat (first | apply Kd.R_alloc | apply Kd.R_drewN | apply Kd.R_drew)); exact HO_10.out⟩, ⟨by (with_reducible repeat (first | apply Kd.R_alloc | apply Kd.R_drewN | apply Kd.R_drew)); exact HO_12.out⟩, ⟨by repeat (first | (with_reducible first | exact HB.out | apply below_alloc | apply pw_below_drewN | apply below_drew1) | exact HB.out)⟩⟩
            ·rw [if_neg c70] at H
             have c70b0 : (t505 == 0) = false := beq_eq_false_iff_ne.mpr c70
             have c70b1 : (t505 != 0) = true := bne_iff_ne.mpr c70
             obtain rfl := Option.some.inj H
             obtain ⟨Ao74, co74, eo74⟩ := Kd.R_slice HO_12.out
             subst eo74
             have q75 : (x21_4 : Int) ≤ ((x12_13.length : Int) : Int) := of_decide_eq_true (by first | (with_reducible assumption) | assumption)
             obtain ⟨i075, hi075, _, hsz75, _⟩ := info_parts info48
             have hroom75 : x12_13.length ≤ co74 := (Kd.R_reads' HO_12.out).2.1
             have hC75 : Kd.C k48 _ Ao74 x12_13.length x12_13 := (Kd.R_reads' HO_12.out).2.2
             have hcut75 := cut_to (P := Tryd.prog) 22 48 .i64 Tryd.underlying22 hi075 Ao74 x12_13.length co74 x21_4 (of_decide_eq_true (by first | (with_reducible assumption) | assumption)) q75 hroom75
             have hr75 := Kd.C_take (m := (x21_4 : Int).toNat) hC75 (by omega)
             have hy75 : y501.length = (x21_4 : Int).toNat := (by rw [Ny501.out, List.length_take]; omega)
             rw [← Ny501.out] at hr75
             rw [← hy75] at hcut75
             have HR504 := Aside0.mk hr75
             have HC504 := Aside0.mk (show y501.length ≤ co74 from by omega)
             clear hr75 hC75 hroom75 hi075 hsz75
             have KY75 := Aside0.mk hy75
             clear hy75
             have KL75 := Aside0.mk (show (x21_4 : Int).toNat ≤ x12_13.length from by omega)
             replace q75 := eq_true q75
             go_wp2_with (first | ((with_reducible refine gate_callee (f := 38) rfl ?_); refine goesL_ (some 138) rfl rfl Tryd.func38 (by kernel_rfl) rfl #[.int .i64 t459, .slice Ao8 t460.length co8, .slice Ao16 t467.length co16, .slice Ao74 y501.length co74] rfl (by (try simp only [List.map_toArray, List.map_cons, List.map_nil]); first | done | rfl | (simp only [List.length_drop, List.length_take]; rfl)) ?_; (with_reducible refine (wetting_Check.calls t459 _ _ t460 _ _ t467 _ _ y501 t505 _ ?side1 ?side2 ?side3 ?side4 ?side5 ?side6 A69.out ?sideT).mono ?_); (case sideT => exact tab_of (by repeat (first | (with_reducible first | exact HB.out | apply below_alloc | apply pw_below_drewN | apply below_drew1) | exact HB.out)) HT.out); (case side1 => repeat (first | exact (Kd.R_reads' HO_7.out).2.2 | (with_reducible refine Kd.C_alloc ?_ _) | (with_reducible refine Kd.C_drewN ?_ _) | (with_reducible refine Kd.C_drew ?_))); (case side2 => exact (Kd.R_reads' HO_7.out).2.1); (case side3 => repeat (first | exact (Kd.R_reads' HO_10.out).2.2 | (with_reducible refine Kd.C_alloc ?_ _) | (with_reducible refine Kd.C_drewN ?_ _) | (with_reducible refine Kd.C_drew ?_))); (case side4 => exact (Kd.R_reads' HO_10.out).2.1); (case side5 => repeat (first | exact (by repeat (first | (with_reducible exact HR504.out) | (with_reducible refine Kd.C_alloc ?_ _) | (with_reducible refine Kd.C_drewN ?_ _) | (with_reducible refine Kd.C_drew ?_) | exact HR504.out)) | (with_reducible refine Kd.C_alloc ?_ _) | (with_reducible refine Kd.C_drewN ?_ _) | (with_reducible refine Kd.C_drew ?_))); (case side6 => exact HC504.out); rintro e w76 ⟨rfl, hb⟩; refine ⟨_, rfl, ?_⟩; have n0_ := Aside0.mk (Kd.R_below (by (with_reducible repeat (first | apply Kd.R_alloc | apply Kd.R_drewN | apply Kd.R_drew)); exact HO_7.out) hb); have n1_ := Aside0.mk (Kd.R_below (by (with_reducible repeat (first | apply Kd.R_alloc | apply Kd.R_drewN | apply Kd.R_drew)); exact HO_10.out) hb); have n2_ := Aside0.mk (Kd.R_below (by (with_reducible repeat (first | apply Kd.R_alloc | apply Kd.R_drewN | apply Kd.R_drew)); exact HO_12.out) hb); have n3_ := Aside0.mk (Kd.C_below (by repeat (first | (with_reducible exact HR504.out) | (with_reducible refine Kd.C_alloc ?_ _) | (with_reducible refine Kd.C_drewN ?_ _) | (with_reducible refine Kd.C_drew ?_) | exact HR504.out)) hb); have n4_ := Aside0.mk (below_step (by repeat (first | (with_reducible first | exact HB.out | apply below_alloc | apply pw_below_drewN | apply below_drew1) | exact HB.out)) hb); clear HO_7; clear HO_10; clear HO_12; clear HR504; clear HB; have HO_7 := n0_; have HO_10 := n1_; have HO_12 := n2_; have HR504 := n3_; have HB := n4_; clear n0_ n1_ n2_ n3_ n4_; (try clear hb); (try clear hb2); (try clear hk); (try clear hi)))
             go_ret
             exact ⟨by first | rfl | (simp [errW_none, errW_some] <;> rfl) | (simp [*, errW_none, errW_some] <;> rfl), by repeat (first | (with_reducible first | exact HB.out | apply below_alloc | apply pw_below_drewN | apply below_drew1) | exact HB.out)⟩
           ·rw [if_neg c67] at H
            exact absurd H (by simp)
          ·rw [if_neg c66] at H
           have c66b0 : decide (x21_4 ≤ (x12_13.length : Int)) = false := decide_eq_false c66
           clear c66
           replace H := Option.bind_eq_some_iff.mp H
           obtain ⟨t506, A770, H⟩ := H
           replace H : ((numnahlaw06_mod.f x9_5 t459).bind fun t509 => ((numnahlaw06_mod.f x9_5 t459).bind fun t510 => (if t506.length < 8796093022208 then ((wetting_Check.f t459 t460 t467 (t506 ++ [(⟨t509, t510⟩ : S48)])).bind fun t514 => (if t514 = 10 then ((numnahlaw06_awake.f).bind fun t515 => (some t515)) else (some false))) else (none)))) = some r := H
           have A77 := Aside0.mk A770
           clear A770
           replace H := Option.bind_eq_some_iff.mp H
           obtain ⟨t509, A780, H⟩ := H
           replace H : ((numnahlaw06_mod.f x9_5 t459).bind fun t510 => (if t506.length < 8796093022208 then ((wetting_Check.f t459 t460 t467 (t506 ++ [(⟨t509, t510⟩ : S48)])).bind fun t514 => (if t514 = 10 then ((numnahlaw06_awake.f).bind fun t515 => (some t515)) else (some false))) else (none))) = some r := H
           have A78 := Aside0.mk A780
           clear A780
           replace H := Option.bind_eq_some_iff.mp H
           obtain ⟨t510, A790, H⟩ := H
           replace H : (if t506.length < 8796093022208 then ((wetting_Check.f t459 t460 t467 (t506 ++ [(⟨t509, t510⟩ : S48)])).bind fun t514 => (if t514 = 10 then ((numnahlaw06_awake.f).bind fun t515 => (some t515)) else (some false))) else (none)) = some r := H
           have A79 := Aside0.mk A790
           clear A790
           by_cases c80 : t506.length < 8796093022208
           ·rw [if_pos c80] at H
            have LMc80 := Aside0.mk c80
            clear c80
            obtain ⟨y511, hy511⟩ : ∃ y_ : List (S48), y_ = (t506 ++ [(⟨t509, t510⟩ : S48)]) := ⟨_, rfl⟩
            replace H : ((wetting_Check.f t459 t460 t467 y511).bind fun t514 => (if t514 = 10 then ((numnahlaw06_awake.f).bind fun t515 => (some t515)) else (some false))) = some r := by first | (rw [hy511]; with_reducible exact H) | (have H2_ := (Option.bind_some _ _).symm.trans H; rw [hy511]; with_reducible exact H2_) | (have H2_ := (Option.bind_some _ _).symm.trans H; with_reducible exact H2_) | with_reducible exact H | (rw [hy511]; exact H) | exact H
            have Ny511 := Aside0.mk hy511
            clear hy511
            replace H := Option.bind_eq_some_iff.mp H
            obtain ⟨t514, A810, H⟩ := H
            replace H : (if t514 = 10 then ((numnahlaw06_awake.f).bind fun t515 => (some t515)) else (some false)) = some r := H
            have A81 := Aside0.mk A810
            clear A810
            by_cases c82 : t514 = 10
            ·rw [if_pos c82] at H
             have c82b0 : (t514 == 10) = true := beq_iff_eq.mpr c82
             have c82b1 : (t514 != 10) = false := bne_eq_false_iff_eq.mpr c82
             clear c82
             replace H := Option.bind_eq_some_iff.mp H
             obtain ⟨t515, A830, H⟩ := H
             replace H : (some t515) = some r := H
             have A83 := Aside0.mk A830
             clear A830
             obtain rfl := Option.some.inj H
             obtain ⟨Ao84, co84, eo84⟩ := Kd.R_slice HO_12.out
             subst eo84
             go_wp2_with (first | ((with_reducible refine gate_callee (f := 17) rfl ?_); refine goesL_ (some 141) rfl rfl Tryd.func17 (by kernel_rfl) rfl #[.slice Ao84 x12_13.length co84] rfl (by (try simp only [List.map_toArray, List.map_cons, List.map_nil]); first | done | rfl | (simp only [List.length_drop, List.length_take]; rfl)) ?_; (with_reducible refine (numnahlaw06_pairs.calls _ _ x12_13 t506 _ ?side1 ?side2 A77.out).mono ?_); (case side1 => repeat (first | exact (Kd.R_reads' HO_12.out).2.2 | (with_reducible refine Kd.C_alloc ?_ _) | (with_reducible refine Kd.C_drewN ?_ _) | (with_reducible refine Kd.C_drew ?_))); (case side2 => exact (Kd.R_reads' HO_12.out).2.1); rintro e w85 ⟨v507, rfl, ho0, hb⟩; refine ⟨_, rfl, ?_⟩; have n0_ := Aside0.mk (Kd.R_elder' (by (with_reducible repeat (first | apply Kd.R_alloc | apply Kd.R_drewN | apply Kd.R_drew)); exact HO_7.out) (Kd.R_base ho0) hb); have n1_ := Aside0.mk (Kd.R_below (by (with_reducible repeat (first | apply Kd.R_alloc | apply Kd.R_drewN | apply Kd.R_drew)); exact HO_10.out) hb); have n2_ := Aside0.mk (Kd.R_elder' (by (with_reducible repeat (first | apply Kd.R_alloc | apply Kd.R_drewN | apply Kd.R_drew)); exact HO_12.out) (Kd.R_base ho0) hb); have n3_ := Aside0.mk (Kd.R_lower (Kd.R_new' (Kd.R_new' ho0 (Kd.R_lt (by (with_reducible repeat (first | apply Kd.R_alloc | apply Kd.R_drewN | apply Kd.R_drew)); exact HO_7.out))) (Kd.R_lt (by (with_reducible repeat (first | apply Kd.R_alloc | apply Kd.R_drewN | apply Kd.R_drew)); exact HO_12.out))) (below_size (by repeat (first | (with_reducible first | exact HB.out | apply below_alloc | apply pw_below_drewN | apply below_drew1) | exact HB.out)))); have n4_ := Aside0.mk (below_step (by repeat (first | (with_reducible first | exact HB.out | apply below_alloc | apply pw_below_drewN | apply below_drew1) | exact HB.out)) hb); clear HO_7; clear HO_10; clear HO_12; clear HB; have HO_7 := n0_; have HO_10 := n1_; have HO_12 := n2_; have HO508 := n3_; have HB := n4_; clear n0_ n1_ n2_ n3_ n4_; (try clear hb); (try clear hb2); (try clear hk); (try clear hi); (try clear ho0)) | ((with_reducible refine gate_callee (f := 33) rfl ?_); refine goesL_ (some 145) rfl rfl Tryd.func33 (by kernel_rfl) rfl #[.int .i64 x9_5, .int .i64 t459] rfl (by (try simp only [List.map_toArray, List.map_cons, List.map_nil]); first | done | rfl | (simp only [List.length_drop, List.length_take]; rfl)) ?_; (with_reducible refine (numnahlaw06_mod.calls x9_5 t459 t509 _ A78.out).mono ?_); rintro e w' ⟨rfl, ⟨nd, rfl⟩⟩; refine ⟨_, rfl, ?_⟩) | ((with_reducible refine gate_callee (f := 33) rfl ?_); refine goesL_ (some 148) rfl rfl Tryd.func33 (by kernel_rfl) rfl #[.int .i64 x9_5, .int .i64 t459] rfl (by (try simp only [List.map_toArray, List.map_cons, List.map_nil]); first | done | rfl | (simp only [List.length_drop, List.length_take]; rfl)) ?_; (with_reducible refine (numnahlaw06_mod.calls x9_5 t459 t510 _ A79.out).mono ?_); rintro e w' ⟨rfl, ⟨nd, rfl⟩⟩; refine ⟨_, rfl, ?_⟩) | ((with_reducible refine gate_builtin (b := .append) (xs := #[.tmp 142, .tmp 150]) rfl ?_); at_builtin; refine Kd.R_append k48 (w0 := w) w.heap.size rfl (.tmp 142) (.tmp 150) 22 48 (.agg #[(.int .i64 0), (.int .i64 0)]) 16 rfl Tryd.underlying22 info48 rfl (by decide) (by omega) v507 t506 (⟨t509, t510⟩ : S48) [.int .i64 t509, .int .i64 t510] (fun k_ => some k_ ≠ (.slice Ao8 t460.length co8 : Value).ownBlock ∧ some k_ ≠ (.slice Ao84 x12_13.length co84 : Value).ownBlock) (fun _ => False) rfl rfl ?aP (fun _ hk => hk.elim) ?aF ?aO ?aB ?aS ?aL ?_; (case aP => exact k48_mkM _ _ _ (⟨t509, t510⟩ : S48)); (case aB => exact (by repeat (first | (with_reducible first | exact HB.out | apply below_alloc | apply pw_below_drewN | apply below_drew1) | exact HB.out))); (case aF => exact (fun k_ hk => ⟨Kd.fresh' (Kd.R_lt (by (with_reducible repeat (first | apply Kd.R_alloc | apply Kd.R_drewN | apply Kd.R_drew)); exact HO_7.out)) k_ hk, Kd.fresh' (Kd.R_lt (by (with_reducible repeat (first | apply Kd.R_alloc | apply Kd.R_drewN | apply Kd.R_drew)); exact HO_12.out)) k_ hk⟩)); (case aO => exact (by (with_reducible repeat (first | apply Kd.R_alloc | apply Kd.R_drewN | apply Kd.R_drew)); exact Kd.R_mono HO508.out (fun _ hk => ⟨hk.1.2, hk.2⟩))); (case aS => exact (below_size (by repeat (first | (with_reducible first | exact HB.out | apply below_alloc | apply pw_below_drewN | apply below_drew1) | exact HB.out)))); (case aL => have := LMc80.out; omega); intro v512 w86 ho hb hg hat; rw [← Ny511.out] at ho; have n0_ := Aside0.mk (Kd.R_after (ok := (fun k_ => some k_ ≠ (.slice Ao84 x12_13.length co84 : Value).ownBlock)) (by (with_reducible repeat (first | apply Kd.R_alloc | apply Kd.R_drewN | apply Kd.R_drew)); exact HO_7.out) hg hat); have n1_ := Aside0.mk (Kd.R_over' (by (with_reducible repeat (first | apply Kd.R_alloc | apply Kd.R_drewN | apply Kd.R_drew)); exact HO_10.out) (Kd.R_typed (by (with_reducible repeat (first | apply Kd.R_alloc | apply Kd.R_drewN | apply Kd.R_drew)); exact HO508.out)) (by decide) hg); have n2_ := Aside0.mk (Kd.R_after (ok := (fun k_ => some k_ ≠ (.slice Ao8 t460.length co8 : Value).ownBlock)) (by (with_reducible repeat (first | apply Kd.R_alloc | apply Kd.R_drewN | apply Kd.R_drew)); exact HO_12.out) hg hat); have n3_ := Aside0.mk (hb); have n4_ := Aside0.mk (ho); clear HO_7; clear HO_10; clear HO_12; clear HB; clear HO508; have HO_7 := n0_; have HO_10 := n1_; have HO_12 := n2_; have HB := n3_; have HO513 := n4_; clear n0_ n1_ n2_ n3_ n4_; clear ho hb hg hat; obtain ⟨Ao87, co87, eo87⟩ := Kd.R_slice HO513.out; subst eo87) | ((with_reducible refine gate_callee (f := 38) rfl ?_); refine goesL_ (some 156) rfl rfl Tryd.func38 (by kernel_rfl) rfl #[.int .i64 t459, .slice Ao8 t460.length co8, .slice Ao16 t467.length co16, .slice Ao87 y511.length co87] rfl (by (try simp only [List.map_toArray, List.map_cons, List.map_nil]); first | done | rfl | (simp only [List.length_drop, List.length_take]; rfl)) ?_; (with_reducible refine (wetting_Check.calls t459 _ _ t460 _ _ t467 _ _ y511 t514 _ ?side1 ?side2 ?side3 ?side4 ?side5 ?side6 A81.out ?sideT).mono ?_); (case sideT => exact tab_of (by repeat (first | (with_reducible first | exact HB.out | apply below_alloc | apply pw_below_drewN | apply below_drew1) | exact HB.out)) HT.out); (case side1 => repeat (first | exact (Kd.R_reads' HO_7.out).2.2 | (with_reducible refine Kd.C_alloc ?_ _) | (with_reducible refine Kd.C_drewN ?_ _) | (with_reducible refine Kd.C_drew ?_))); (case side2 => exact (Kd.R_reads' HO_7.out).2.1); (case side3 => repeat (first | exact (Kd.R_reads' HO_10.out).2.2 | (with_reducible refine Kd.C_alloc ?_ _) | (with_reducible refine Kd.C_drewN ?_ _) | (with_reducible refine Kd.C_drew ?_))); (case side4 => exact (Kd.R_reads' HO_10.out).2.1); (case side5 => repeat (first | exact (Kd.R_reads' HO513.out).2.2 | (with_reducible refine Kd.C_alloc ?_ _) | (with_reducible refine Kd.C_drewN ?_ _) | (with_reducible refine Kd.C_drew ?_))); (case side6 => exact (Kd.R_reads' HO513.out).2.1); rintro e w88 ⟨rfl, hb⟩; refine ⟨_, rfl, ?_⟩; have n0_ := Aside0.mk (Kd.R_below (by (with_reducible repeat (first | apply Kd.R_alloc | apply Kd.R_drewN | apply Kd.R_drew)); exact HO_7.out) hb); have n1_ := Aside0.mk (Kd.R_below (by (with_reducible repeat (first | apply Kd.R_alloc | apply Kd.R_drewN | apply Kd.R_drew)); exact HO_10.out) hb); have n2_ := Aside0.mk (Kd.R_below (by (with_reducible repeat (first | apply Kd.R_alloc | apply Kd.R_drewN | apply Kd.R_drew)); exact HO_12.out) hb); have n3_ := Aside0.mk (Kd.R_below (by (with_reducible repeat (first | apply Kd.R_alloc | apply Kd.R_drewN | apply Kd.R_drew)); exact HO513.out) hb); have n4_ := Aside0.mk (below_step (by repeat (first | (with_reducible first | exact HB.out | apply below_alloc | apply pw_below_drewN | apply below_drew1) | exact HB.out)) hb); clear HO_7; clear HO_10; clear HO_12; clear HO513; clear HB; have HO_7 := n0_; have HO_10 := n1_; have HO_12 := n2_; have HO513 := n3_; have HB := n4_; clear n0_ n1_ n2_ n3_ n4_; (try clear hb); (try clear hb2); (try clear hk); (try clear hi)) | (go_at_call 21; (with_reducible refine (numnahlaw06_awake.calls  t515 _ A83.out ?sideT).mono ?_); (case sideT => exact tab_of (by repeat (first | (with_reducible first | exact HB.out | apply below_alloc | apply pw_below_drewN | apply below_drew1) | exact HB.out)) HT.out); rintro e w89 ⟨rfl, hb⟩; have n0_ := Aside0.mk (Kd.R_below (by (with_reducible repeat (first | apply Kd.R_alloc | apply Kd.R_drewN | apply Kd.R_drew)); exact HO_7.out) hb); have n1_ := Aside0.mk (Kd.R_below (by (with_reducible repeat (first | apply Kd.R_alloc | apply Kd.R_drewN | apply Kd.R_drew)); exact HO_10.out) hb); have n2_ := Aside0.mk (Kd.R_below (by (with_reducible repeat (first | apply Kd.R_alloc | apply Kd.R_drewN | apply Kd.R_drew)); exact HO_12.out) hb); have n3_ := Aside0.mk (Kd.R_below (by (with_reducible repeat (first | apply Kd.R_alloc | apply Kd.R_drewN | apply Kd.R_drew)); exact HO513.out) hb); have n4_ := Aside0.mk (below_step (by repeat (first | (with_reducible first | exact HB.out | apply below_alloc | apply pw_below_drewN | apply below_drew1) | exact HB.out)) hb); clear HO_7; clear HO_10; clear HO_12; clear HO513; clear HB; have HO_7 := n0_; have HO_10 := n1_; have HO_12 := n2_; have HO513 := n3_; have HB := n4_; clear n0_ n1_ n2_ n3_ n4_; (try clear hb); (try clear hb2); (try clear hk); (try clear hi)))
             go_ret
             exact ⟨by first | rfl | (simp [errW_none, errW_some] <;> rfl) | (simp [*, errW_none, errW_some] <;> rfl), by repeat (first | (with_reducible first | exact HB.out | apply below_alloc | apply pw_below_drewN | apply below_drew1) | exact HB.out)⟩
            ·rw [if_neg c82] at H
             have c82b0 : (t514 == 10) = false := beq_eq_false_iff_ne.mpr c82
             have c82b1 : (t514 != 10) = true := bne_iff_ne.mpr c82
             obtain rfl := Option.some.inj H
             obtain ⟨Ao90, co90, eo90⟩ := Kd.R_slice HO_12.out
             subst eo90
             go_wp2_with (first | ((with_reducible refine gate_callee (f := 17) rfl ?_); refine goesL_ (some 141) rfl rfl Tryd.func17 (by kernel_rfl) rfl #[.slice Ao90 x12_13.length co90] rfl (by (try simp only [List.map_toArray, List.map_cons, List.map_nil]); first | done | rfl | (simp only [List.length_drop, List.length_take]; rfl)) ?_; (with_reducible refine (numnahlaw06_pairs.calls _ _ x12_13 t506 _ ?side1 ?side2 A77.out).mono ?_); (case side1 => repeat (first | exact (Kd.R_reads' HO_12.out).2.2 | (with_reducible refine Kd.C_alloc ?_ _) | (with_reducible refine Kd.C_drewN ?_ _) | (with_reducible refine Kd.C_drew ?_))); (case side2 => exact (Kd.R_reads' HO_12.out).2.1); rintro e w91 ⟨v507, rfl, ho0, hb⟩; refine ⟨_, rfl, ?_⟩; have n0_ := Aside0.mk (Kd.R_elder' (by (with_reducible repeat (first | apply Kd.R_alloc | apply Kd.R_drewN | apply Kd.R_drew)); exact HO_7.out) (Kd.R_base ho0) hb); have n1_ := Aside0.mk (Kd.R_below (by (with_reducible repeat (first | apply Kd.R_alloc | apply Kd.R_drewN | apply Kd.R_drew)); exact HO_10.out) hb); have n2_ := Aside0.mk (Kd.R_elder' (by (with_reducible repeat (first | apply Kd.R_alloc | apply Kd.R_drewN | apply Kd.R_drew)); exact HO_12.out) (Kd.R_base ho0) hb); have n3_ := Aside0.mk (Kd.R_lower (Kd.R_new' (Kd.R_new' ho0 (Kd.R_lt (by (with_reducible repeat (first | apply Kd.R_alloc | apply Kd.R_drewN | apply Kd.R_drew)); exact HO_7.out))) (Kd.R_lt (by (with_reducible repeat (first | apply Kd.R_alloc | apply Kd.R_drewN | apply Kd.R_drew)); exact HO_12.out))) (below_size (by repeat (first | (with_reducible first | exact HB.out | apply below_alloc | apply pw_below_drewN | apply below_drew1) | exact HB.out)))); have n4_ := Aside0.mk (below_step (by repeat (first | (with_reducible first | exact HB.out | apply below_alloc | apply pw_below_drewN | apply below_drew1) | exact HB.out)) hb); clear HO_7; clear HO_10; clear HO_12; clear HB; have HO_7 := n0_; have HO_10 := n1_; have HO_12 := n2_; have HO508 := n3_; have HB := n4_; clear n0_ n1_ n2_ n3_ n4_; (try clear hb); (try clear hb2); (try clear hk); (try clear hi); (try clear ho0)) | ((with_reducible refine gate_callee (f := 33) rfl ?_); refine goesL_ (some 145) rfl rfl Tryd.func33 (by kernel_rfl) rfl #[.int .i64 x9_5, .int .i64 t459] rfl (by (try simp only [List.map_toArray, List.map_cons, List.map_nil]); first | done | rfl | (simp only [List.length_drop, List.length_take]; rfl)) ?_; (with_reducible refine (numnahlaw06_mod.calls x9_5 t459 t509 _ A78.out).mono ?_); rintro e w' ⟨rfl, ⟨nd, rfl⟩⟩; refine ⟨_, rfl, ?_⟩) | ((with_reducible refine gate_callee (f := 33) rfl ?_); refine goesL_ (some 148) rfl rfl Tryd.func33 (by kernel_rfl) rfl #[.int .i64 x9_5, .int .i64 t459] rfl (by (try simp only [List.map_toArray, List.map_cons, List.map_nil]); first | done | rfl | (simp only [List.length_drop, List.length_take]; rfl)) ?_; (with_reducible refine (numnahlaw06_mod.calls x9_5 t459 t510 _ A79.out).mono ?_); rintro e w' ⟨rfl, ⟨nd, rfl⟩⟩; refine ⟨_, rfl, ?_⟩) | ((with_reducible refine gate_builtin (b := .append) (xs := #[.tmp 142, .tmp 150]) rfl ?_); at_builtin; refine Kd.R_append k48 (w0 := w) w.heap.size rfl (.tmp 142) (.tmp 150) 22 48 (.agg #[(.int .i64 0), (.int .i64 0)]) 16 rfl Tryd.underlying22 info48 rfl (by decide) (by omega) v507 t506 (⟨t509, t510⟩ : S48) [.int .i64 t509, .int .i64 t510] (fun k_ => some k_ ≠ (.slice Ao8 t460.length co8 : Value).ownBlock ∧ some k_ ≠ (.slice Ao90 x12_13.length co90 : Value).ownBlock) (fun _ => False) rfl rfl ?aP (fun _ hk => hk.elim) ?aF ?aO ?aB ?aS ?aL ?_; (case aP => exact k48_mkM _ _ _ (⟨t509, t510⟩ : S48)); (case aB => exact (by repeat (first | (with_reducible first | exact HB.out | apply below_alloc | apply pw_below_drewN | apply below_drew1) | exact HB.out))); (case aF => exact (fun k_ hk => ⟨Kd.fresh' (Kd.R_lt (by (with_reducible repeat (first | apply Kd.R_alloc | apply Kd.R_drewN | apply Kd.R_drew)); exact HO_7.out)) k_ hk, Kd.fresh' (Kd.R_lt (by (with_reducible repeat (first | apply Kd.R_alloc | apply Kd.R_drewN | apply Kd.R_drew)); exact HO_12.out)) k_ hk⟩)); (case aO => exact (by (with_reducible repeat (first | apply Kd.R_alloc | apply Kd.R_drewN | apply Kd.R_drew)); exact Kd.R_mono HO508.out (fun _ hk => ⟨hk.1.2, hk.2⟩))); (case aS => exact (below_size (by repeat (first | (with_reducible first | exact HB.out | apply below_alloc | apply pw_below_drewN | apply below_drew1) | exact HB.out)))); (case aL => have := LMc80.out; omega); intro v512 w92 ho hb hg hat; rw [← Ny511.out] at ho; have n0_ := Aside0.mk (Kd.R_after (ok := (fun k_ => some k_ ≠ (.slice Ao90 x12_13.length co90 : Value).ownBlock)) (by (with_reducible repeat (first | apply Kd.R_alloc | apply Kd.R_drewN | apply Kd.R_drew)); exact HO_7.out) hg hat); have n1_ := Aside0.mk (Kd.R_over' (by (with_reducible repeat (first | apply Kd.R_alloc | apply Kd.R_drewN | apply Kd.R_drew)); exact HO_10.out) (Kd.R_typed (by (with_reducible repeat (first | apply Kd.R_alloc | apply Kd.R_drewN | apply Kd.R_drew)); exact HO508.out)) (by decide) hg); have n2_ := Aside0.mk (Kd.R_after (ok := (fun k_ => some k_ ≠ (.slice Ao8 t460.length co8 : Value).ownBlock)) (by (with_reducible repeat (first | apply Kd.R_alloc | apply Kd.R_drewN | apply Kd.R_drew)); exact HO_12.out) hg hat); have n3_ := Aside0.mk (hb); have n4_ := Aside0.mk (ho); clear HO_7; clear HO_10; clear HO_12; clear HB; clear HO508; have HO_7 := n0_; have HO_10 := n1_; have HO_12 := n2_; have HB := n3_; have HO513 := n4_; clear n0_ n1_ n2_ n3_ n4_; clear ho hb hg hat; obtain ⟨Ao93, co93, eo93⟩ := Kd.R_slice HO513.out; subst eo93) | ((with_reducible refine gate_callee (f := 38) rfl ?_); refine goesL_ (some 156) rfl rfl Tryd.func38 (by kernel_rfl) rfl #[.int .i64 t459, .slice Ao8 t460.length co8, .slice Ao16 t467.length co16, .slice Ao93 y511.length co93] rfl (by (try simp only [List.map_toArray, List.map_cons, List.map_nil]); first | done | rfl | (simp only [List.length_drop, List.length_take]; rfl)) ?_; (with_reducible refine (wetting_Check.calls t459 _ _ t460 _ _ t467 _ _ y511 t514 _ ?side1 ?side2 ?side3 ?side4 ?side5 ?side6 A81.out ?sideT).mono ?_); (case sideT => exact tab_of (by repeat (first | (with_reducible first | exact HB.out | apply below_alloc | apply pw_below_drewN | apply below_drew1) | exact HB.out)) HT.out); (case side1 => repeat (first | exact (Kd.R_reads' HO_7.out).2.2 | (with_reducible refine Kd.C_alloc ?_ _) | (with_reducible refine Kd.C_drewN ?_ _) | (with_reducible refine Kd.C_drew ?_))); (case side2 => exact (Kd.R_reads' HO_7.out).2.1); (case side3 => repeat (first | exact (Kd.R_reads' HO_10.out).2.2 | (with_reducible refine Kd.C_alloc ?_ _) | (with_reducible refine Kd.C_drewN ?_ _) | (with_reducible refine Kd.C_drew ?_))); (case side4 => exact (Kd.R_reads' HO_10.out).2.1); (case side5 => repeat (first | exact (Kd.R_reads' HO513.out).2.2 | (with_reducible refine Kd.C_alloc ?_ _) | (with_reducible refine Kd.C_drewN ?_ _) | (with_reducible refine Kd.C_drew ?_))); (case side6 => exact (Kd.R_reads' HO513.out).2.1); rintro e w94 ⟨rfl, hb⟩; refine ⟨_, rfl, ?_⟩; have n0_ := Aside0.mk (Kd.R_below (by (with_reducible repeat (first | apply Kd.R_alloc | apply Kd.R_drewN | apply Kd.R_drew)); exact HO_7.out) hb); have n1_ := Aside0.mk (Kd.R_below (by (with_reducible repeat (first | apply Kd.R_alloc | apply Kd.R_drewN | apply Kd.R_drew)); exact HO_10.out) hb); have n2_ := Aside0.mk (Kd.R_below (by (with_reducible repeat (first | apply Kd.R_alloc | apply Kd.R_drewN | apply Kd.R_drew)); exact HO_12.out) hb); have n3_ := Aside0.mk (Kd.R_below (by (with_reducible repeat (first | apply Kd.R_alloc | apply Kd.R_drewN | apply Kd.R_drew)); exact HO513.out) hb); have n4_ := Aside0.mk (below_step (by repeat (first | (with_reducible first | exact HB.out | apply below_alloc | apply pw_below_drewN | apply below_drew1) | exact HB.out)) hb); clear HO_7; clear HO_10; clear HO_12; clear HO513; clear HB; have HO_7 := n0_; have HO_10 := n1_; have HO_12 := n2_; have HO513 := n3_; have HB := n4_; clear n0_ n1_ n2_ n3_ n4_; (try clear hb); (try clear hb2); (try clear hk); (try clear hi)))
             go_ret
             exact ⟨by first | rfl | (simp [errW_none, errW_some] <;> rfl) | (simp [*, errW_none, errW_some] <;> rfl), by repeat (first | (with_reducible first | exact HB.out | apply below_alloc | apply pw_below_drewN | apply below_drew1) | exact HB.out)⟩
           ·rw [if_neg c80] at H
            exact absurd H (by simp)

end Go.Proofs.YtpbeaaihdmfnlaaDoor.G

/- ### LOrders -/
/- The law of orders, in plain words. -/
namespace Go.Proofs.YtpbeaaihdmfnlaaDoor.P
open Go Go.RowKit Go.Proofs.YtpbeaaihdmfnlaaDoor.M Go.Proofs.YtpbeaaihdmfnlaaDoor.H Go.Proofs.YtpbeaaihdmfnlaaDoor.G
open Go.Proofs.YtpbeaaihdmfnlaaDoorW.PrintWords Go.Proofs.YtpbeaaihdmfnlaaDoorW.PrintMore

theorem wetL_append (s : Nat) (a b : List S48) : wetL s (a ++ b) = wetL (wetL s a) b := by unfold wetL; rw [List.foldl_append]
theorem checkL_append {n : Nat} {near : Nat → Nat} : ∀ (a b : List S48) (s : Nat), checkL n near s (a ++ b) = (checkL n near s a && checkL n near (wetL s a) b)
  | [], b, s => by rw [List.nil_append, checkL, Bool.true_and]; rfl
  | e :: a, b, s => by
    rw [List.cons_append, checkL, checkL]
    split
    · rw [checkL_append a b]; rfl
    · rfl
theorem checkL_take {n : Nat} {near : Nat → Nat} {s : Nat} {a : List S48} (h : checkL n near s a = true) (i : Nat) : checkL n near s (a.take i) = true := by
  have e := checkL_append (n := n) (near := near) (a.take i) (a.drop i) s
  rw [List.take_append_drop, h, eq_comm, Bool.and_eq_true] at e
  exact e.1
theorem Tamed.check {n s : Nat} {l : List S48} (h : Tamed n l) (hs : s < 2 ^ n) {ch : List S48} (hc : fitL ch) : wetting_Check.f (n : Int) l (natsI (bitsOf s)) ch = some (if checkL n (nearOf l) s ch = true then 0 else 10) := by
  unfold wetting_Check.f; rw [if_pos ⟨h.inI, h.fit, h.fitS hs, hc⟩]; unfold checkX; rw [h.both hs]
/-- What stands behind some steps. -/
structure OInv (n : Nat) (near : Nat → Nat) (s : Nat) (P : List S48) (t i : Nat) : Prop where
  lt : t < 2 ^ n
  ck : checkL n near s P = true
  wt : wetL s P = t
  len : P.length = i
  le : i ≤ n
  crd : card t = card s + i
  sub : Sub s t
  subc : Sub t (cl (forcedM near) n s)
theorem OInv.next {n s t i : Nat} {near : Nat → Nat} {P : List S48} (hn : n ≤ 12) (hr : ∀ v, near v < 2 ^ n) (hs : s < 2 ^ n) (I : OInv n near s P t i) (hi : i < n) {e : S48} (he : forceOk n near t e) : OInv n near s (P ++ [e]) (t ||| 2 ^ e.f1.toNat) (i + 1) := by
  obtain ⟨h0, h1, h2, h3, h4, h5⟩ := he
  have hb : (andNot (near e.f0.toNat) t).testBit e.f1.toNat = true := by rw [h5, testBit_pow]; exact decide_eq_true rfl
  have hv := disj_andNot hb
  have hlt : e.f1.toNat < n := by omega
  have hp : 2 ^ e.f1.toNat < 2 ^ n := Nat.pow_lt_pow_right (by omega) hlt
  have w : wetL s (P ++ [e]) = t ||| 2 ^ e.f1.toNat := by rw [wetL_append, I.wt]; rfl
  have g := good_forced hr
  have hc := cl_lt g hs
  refine ⟨Nat.or_lt_two_pow I.lt hp, ?_, w, by rw [List.length_append, I.len]; rfl, by omega, ?_, I.sub.trans (sub_or_left _ _), or_sub I.subc ?_⟩
  · rw [checkL_append, I.ck, I.wt, Bool.true_and, checkL, if_pos ⟨h0, h1, h2, h3, h4, h5⟩]; rfl
  · rw [card_insert hv.2 (by omega), I.crd]; omega
  · have h64 : t < 2 ^ 64 := lt64 hn I.lt
    have : (forcedM near t).testBit e.f1.toNat = true := (testBit_forced h64).2 ⟨e.f0.toNat, h4, by rw [h5]; exact card_pow (by omega), hb⟩
    exact sub_pow.2 (forced_closed hn hr I.lt hc (cl_closed g hs) I.subc _ this)
theorem OInv.done {n s t i : Nat} {near : Nat → Nat} {P : List S48} (hn : n ≤ 12) (hr : ∀ v, near v < 2 ^ n) (hs : s < 2 ^ n) (I : OInv n near s P t i) (h : forcedM near t = 0) : cl (forcedM near) n s = t := by
  have h1 := close_mono hn hr hs I.lt I.sub
  have h2 : cl (forcedM near) n t = t := by unfold cl; rw [cl_of_closed h]
  rw [h2] at h1
  exact h1.antisymm I.subc
theorem OInv.all {n s t : Nat} {near : Nat → Nat} {P : List S48} (hn : n ≤ 12) (hr : ∀ v, near v < 2 ^ n) (I : OInv n near s P t n) : forcedM near t = 0 := by
  have h := card_le I.lt (by omega)
  have := I.crd
  have hf := (card_eq_full I.lt (by omega)).1 (show card t = n by omega)
  have g := good_forced hr
  refine Classical.byContradiction fun hne => ?_
  have h1 := g.more hne
  have h2 := g.or_lt I.lt
  have : full n = 2 ^ n - 1 := rfl
  omega
section
variable {n s : Nat} {out : List S48} (h : Tamed n out) (hs : s < 2 ^ n) (x2 : List Int) (x9 : Int)
include h hs
theorem orders_l2 {t i : Nat} {P : List S48} (I : OInv n (nearOf out) s P t i) : ∀ d j : Nat, j + d = P.length + 1 → Ev (fun k => numnahlaw06_WettingOrders.l2 k (n : Int) out x9 (natsI (bitsOf s)) P (j : Int)) true := by
  have hle := h.g.le
  have hpos := h.g.pos
  have hil := I.le
  have hlen := I.len
  intro d
  induction d with
  | zero =>
    intro j hj
    obtain ⟨v, ev, hv⟩ := mod_f x9 (n := n) (by omega) (by omega)
    have hck : checkL n (nearOf out) s (P ++ [⟨(v : Int), (v : Int)⟩]) = false := by
      rw [checkL_append, I.ck, I.wt, Bool.true_and, checkL, if_neg]
      rintro ⟨_, _, _, _, h4, h5⟩
      have : (andNot (nearOf out (v : Int).toNat) t).testBit (v : Int).toNat = true := by rw [h5, testBit_pow]; exact decide_eq_true rfl
      have := (disj_andNot this).2
      rw [h4] at this; cases this
    refine Ev.step (f := fun _ => (numnahlaw06_awake.f).bind fun t515 => (some t515)) (fun k => ?_) ev_awake
    simp only [numnahlaw06_WettingOrders.l2]
    rw [if_neg (by omega), pairs_f, ev]
    simp only [Option.bind_some]
    rw [List.take_of_length_le (by omega), if_pos (by omega), h.check hs (fit_small (by rw [List.length_append]; simp; omega)), hck]
    rfl
  | succ d ih =>
    intro j hj
    refine Ev.step (fun k => ?_) (ih (j + 1) (by omega))
    simp only [numnahlaw06_WettingOrders.l2]
    rw [if_pos (by omega), if_pos (by omega), h.check hs (fit_small (by rw [List.length_take]; omega)), checkL_take I.ck, wrap_succ (by omega)]
    rfl
theorem orders_j3 {t i : Nat} {P : List S48} (I : OInv n (nearOf out) s P t i) (h0 : forcedM (nearOf out) t = 0) : Ev (fun k => numnahlaw06_WettingOrders.j3 k (n : Int) out x9 (natsI (bitsOf s)) (t : Int) P) true := by
  have hc := h.close hs
  rw [I.done h.g.le h.g.lt hs h0] at hc
  refine Ev.step (f := fun k => (numnahref06_List.f k (t : Int)).bind fun t497 => ((numnahlaw06_ints.f k (natsI (bitsOf t)) t497).bind fun t500 => (numnahlaw06_WettingOrders.j4 k (n : Int) out x9 (natsI (bitsOf s)) P (!t500)))) (fun k => ?_) ?_
  · simp only [numnahlaw06_WettingOrders.j3]
    rw [hc]; rfl
  refine Ev.bind (ev_list (h.small I.lt)) ?_
  have hi := ev_ints (a := natsI (bitsOf t)) (b := natsI (bitsOf t)) (by rw [natsI_length]; have := card_lt64 (h.small I.lt); show card _ < _; omega)
  rw [decide_eq_true rfl] at hi
  refine Ev.bind hi ?_
  refine Ev.step (fun k => ?_) (orders_l2 h hs x9 I (P.length + 1) 0 (by omega))
  simp only [numnahlaw06_WettingOrders.j4]
  rfl
theorem orders_l1 {t i : Nat} {P : List S48} (I : OInv n (nearOf out) s P t i)
    (hfin : ∀ acc : List S48, acc.length ≤ n → (∀ e ∈ acc, forceOk n (nearOf out) t e) → (acc = [] → forcedM (nearOf out) t = 0) → Ev (fun k => numnahlaw06_WettingOrders.l1 k (n : Int) x2 out (R (nearOf out) n) x9 (natsI (bitsOf s)) (t : Int) P (i : Int) acc (n : Int)) true) :
    ∀ (d j : Nat) (acc : List S48), j + d = n → acc.length ≤ j → (∀ e ∈ acc, forceOk n (nearOf out) t e) → (acc = [] → ∀ v, v < j → t.testBit v = true → card (andNot (nearOf out v) t) ≠ 1) →
    Ev (fun k => numnahlaw06_WettingOrders.l1 k (n : Int) x2 out (R (nearOf out) n) x9 (natsI (bitsOf s)) (t : Int) P (i : Int) acc (j : Int)) true := by
  have hle := h.g.le
  intro d
  induction d with
  | zero =>
    intro j acc hj hl ha hn
    obtain rfl : j = n := by omega
    refine hfin acc hl ha (fun h0 => ?_)
    refine Classical.byContradiction fun hne => ?_
    obtain ⟨q, hq⟩ := ne_zero_bit hne
    obtain ⟨v, h1, h2, _⟩ := (testBit_forced (lt64 hle I.lt)).1 hq
    exact hn h0 v (bit_lt I.lt h1) h1 h2
  | succ d ih =>
    intro j acc hj hl ha hn
    have hjn : j < n := by omega
    have hnj : nearOf out j < 4096 := h.small (h.g.lt j)
    cases hb : t.testBit j with
    | false =>
      refine Ev.step (fun k => ?_) (ih (j + 1) acc (by omega) (by omega) ha (fun h0 v hv hvb => ?_))
      · simp only [numnahlaw06_WettingOrders.l1]
        rw [if_pos (by omega), if_pos (by omega), R_length, if_pos (by omega), tmod_bit (by omega), hb, if_neg (by simp), wrap_succ (by omega)]
      · by_cases hvj : v = j
        · rw [hvj, hb] at hvb; cases hvb
        · exact hn h0 v (by omega) hvb
    | true =>
      have han : andNot (nearOf out j) t < 4096 := andNot_lt (k := 12) hnj
      refine Ev.step (f := fun k => (numnahref06_Count.f k ((andNot (nearOf out j) t : Nat) : Int)).bind fun t472 => (if t472 = 1 then ((numnahref06_List.f k ((andNot (nearOf out j) t : Nat) : Int)).bind fun t473 => (if 0 < (t473.length : Int) then (if acc.length < 8796093022208 then (numnahlaw06_WettingOrders.l1 k (n : Int) x2 out (R (nearOf out) n) x9 (natsI (bitsOf s)) (t : Int) P (i : Int) (acc ++ [(⟨(j : Int), rd t473 0⟩ : S48)]) ((j + 1 : Nat) : Int)) else (none)) else (none))) else (numnahlaw06_WettingOrders.l1 k (n : Int) x2 out (R (nearOf out) n) x9 (natsI (bitsOf s)) (t : Int) P (i : Int) acc ((j + 1 : Nat) : Int)))) (fun k => ?_) ?_
      · simp only [numnahlaw06_WettingOrders.l1]
        rw [if_pos (by omega), if_pos (by omega), R_length, if_pos (by omega), tmod_bit (by omega), hb, if_pos (by simp), wrap_succ (by omega), rd_R hjn, andN hnj]
      · refine Ev.bind (ev_count han) ?_
        by_cases hc : card (andNot (nearOf out j) t) = 1
        · refine Ev.congr (fun k => if_pos (by omega)) ?_
          obtain ⟨o1, o2, o3, o4⟩ := one_low (show andNot (nearOf out j) t < 2 ^ 64 by omega) hc
          have hlow : low (andNot (nearOf out j) t) < n := bit_lt (h.g.lt j) (disj_andNot o3).1
          refine Ev.bind (ev_list han) ?_
          rw [o4]
          refine Ev.congr (fun k => if_pos (show (0 : Int) < ((natsI [low (andNot (nearOf out j) t)]).length : Int) by rw [natsI_length]; simp)) ?_
          refine Ev.congr (fun k => if_pos (by omega)) ?_
          refine ih (j + 1) _ (by omega) (by rw [List.length_append]; simp; omega) (fun e he => ?_) (fun h0 => absurd h0 (by simp))
          rcases List.mem_append.1 he with he | he
          · exact ha e he
          · obtain rfl := List.mem_singleton.1 he
            refine ⟨by show (0 : Int) ≤ (j : Int); omega, by show (j : Int) ≤ (n : Int) - 1; omega, ?_, ?_, ?_, ?_⟩
            · show (0 : Int) ≤ ((low (andNot (nearOf out j) t) : Nat) : Int); omega
            · show ((low (andNot (nearOf out j) t) : Nat) : Int) ≤ (n : Int) - 1; omega
            · exact hb
            · exact o1
        · refine Ev.congr (fun k => if_neg (by omega)) ?_
          refine ih (j + 1) acc (by omega) (by omega) ha (fun h0 v hv hvb => ?_)
          by_cases hvj : v = j
          · rw [hvj]; exact hc
          · exact hn h0 v (by omega) hvb
theorem orders_l0 : ∀ (d i t : Nat) (P : List S48), i + d = n → OInv n (nearOf out) s P t i →
    Ev (fun k => numnahlaw06_WettingOrders.l0 k (n : Int) x2 out (R (nearOf out) n) x9 (natsI (bitsOf s)) (t : Int) P (i : Int)) true := by
  have hle := h.g.le
  intro d
  induction d with
  | zero =>
    intro i t P hi I
    obtain rfl : i = n := by omega
    refine Ev.step (fun k => ?_) (orders_j3 h hs x9 I (I.all hle h.g.lt))
    simp only [numnahlaw06_WettingOrders.l0]
    rw [if_neg (by omega)]
  | succ d ih =>
    intro i t P hi I
    have hin : i < n := by omega
    have hPl := I.len
    refine Ev.step (fun k => by simp only [numnahlaw06_WettingOrders.l0]; rw [if_pos (by omega)]) ?_
    refine orders_l1 h hs x2 x9 I (fun acc hal ha h0 => ?_) n 0 [] (by omega) (by simp) (fun e he => by cases he) (fun _ v hv => by omega)
    by_cases hnil : acc = []
    · refine Ev.step (fun k => ?_) (orders_j3 h hs x9 I (h0 hnil))
      simp only [numnahlaw06_WettingOrders.l1]
      rw [if_neg (by omega), if_pos (by rw [hnil]; rfl)]
    · have hap : 0 < acc.length := List.length_pos_iff.2 hnil
      have go : ∀ q, q < acc.length → Ev (fun k => if P.length < 8796093022208 then (if 0 ≤ ((rd_T48 acc (q : Int)).f1) then (numnahlaw06_WettingOrders.l0 k (n : Int) x2 out (R (nearOf out) n) x9 (natsI (bitsOf s)) (Go.bits .or .i64 (t : Int) (shl .i64 1 ((rd_T48 acc (q : Int)).f1))) (P ++ [(⟨(rd_T48 acc (q : Int)).f0, (rd_T48 acc (q : Int)).f1⟩ : S48)]) ((i + 1 : Nat) : Int)) else (none)) else (none)) true := by
        intro q hq
        rw [rd_T hq]
        have he := ha acc[q] (List.getElem_mem hq)
        have hI := I.next hle h.g.lt hs hin he
        have h2 := he.2.2.1
        have h3 := he.2.2.2.1
        obtain ⟨v, hv⟩ : ∃ v : Nat, acc[q].f1 = v := ⟨acc[q].f1.toNat, by omega⟩
        have hvt : acc[q].f1.toNat = v := by omega
        have hvp : 2 ^ v < 2 ^ n := Nat.pow_lt_pow_right (by omega) (by omega)
        refine Ev.congr (fun k => if_pos (by omega)) ?_
        refine Ev.congr (fun k => if_pos h2) ?_
        have e1 : Go.bits .or .i64 (t : Int) (shl .i64 1 acc[q].f1) = ((t ||| 2 ^ acc[q].f1.toNat : Nat) : Int) := by
          rw [hvt, hv, shl_i (by omega), orI (h.small I.lt) (h.small hvp)]
        rw [e1]
        exact ih (i + 1) _ _ (by omega) hI
      by_cases hx : ((i + 1 : Nat) : Int) < (x2.length : Int)
      · obtain ⟨q, eq, hq⟩ := mod_f (rd x2 ((i + 1 : Nat) : Int)) (n := acc.length) hap (by omega)
        refine Ev.step (fun k => ?_) (go q hq)
        simp only [numnahlaw06_WettingOrders.l1]
        rw [if_neg (by omega), if_neg (by omega), wrap_succ (by omega), if_pos hx, if_pos (by omega), eq, Option.bind_some, if_pos (by omega), if_pos (by omega)]
      · refine Ev.step (fun k => ?_) (go 0 hap)
        simp only [numnahlaw06_WettingOrders.l1]
        rw [if_neg (by omega), if_neg (by omega), wrap_succ (by omega), if_neg hx, if_pos (by omega)]
        rfl
end
theorem orders_j0 {n : Nat} {out : List S48} (h : Tamed n out) (x2 : List Int) (x9 : Int) : Ev (fun k => numnahlaw06_WettingOrders.j0 k (n : Int) x2 out (R (nearOf out) n) x9) true := by
  obtain ⟨s, hs, hse⟩ := ev_some h.g.le x9
  refine Ev.step (f := fun k => (numnahlaw06_some.f k (n : Int) x9).bind fun t467 => ((numnahref06_Set.f k t467).bind fun t470 => (numnahlaw06_WettingOrders.l0 k (n : Int) x2 out (R (nearOf out) n) x9 t467 t470 ([] : List (S48)) 0))) (fun k => by simp only [numnahlaw06_WettingOrders.j0]) ?_
  refine Ev.bind hse ?_
  refine Ev.bind (h.set hs) ?_
  exact orders_l0 h hs x2 x9 n 0 s [] (by omega) ⟨hs, rfl, rfl, rfl, by omega, rfl, Sub.refl s, cl_sub⟩
theorem orders_pure (a0 : Int) (_ : inI a0) (l : List S48) (hl : fitL l) (l2 : List Int) (_ : fitL l2) : ∃ k, numnahlaw06_WettingOrders.f k a0 l l2 = some true := by
  obtain ⟨n, out, h, hv⟩ := tame_ex a0 hl
  refine Ev.rounds ?_
  simp only [numnahlaw06_WettingOrders.f]
  refine Ev.bind hv ?_
  simp only [h.near, Option.bind_some]
  by_cases h0 : (l2.length : Int) > 0
  · refine Ev.congr (fun k => if_pos h0) ?_
    refine Ev.congr (fun k => if_pos (by omega)) ?_
    exact orders_j0 h l2 _
  · refine Ev.congr (fun k => if_neg h0) ?_
    exact orders_j0 h l2 0
end Go.Proofs.YtpbeaaihdmfnlaaDoor.P
