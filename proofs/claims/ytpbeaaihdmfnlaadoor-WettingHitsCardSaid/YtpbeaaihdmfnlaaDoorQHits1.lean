/- Several texts, joined. -/
import Derived.Test.YtpbeaaihdmfnlaaDoorQB6
namespace Go.Proofs.YtpbeaaihdmfnlaaDoor.G
end Go.Proofs.YtpbeaaihdmfnlaaDoor.G
namespace Go.Proofs.YtpbeaaihdmfnlaaDoor.H
end Go.Proofs.YtpbeaaihdmfnlaaDoor.H
namespace Go.Proofs.YtpbeaaihdmfnlaaDoor.M
end Go.Proofs.YtpbeaaihdmfnlaaDoor.M
namespace Go.Proofs.YtpbeaaihdmfnlaaDoor.Row
end Go.Proofs.YtpbeaaihdmfnlaaDoor.Row
namespace Go.Proofs.YtpbeaaihdmfnlaaDoorW.PrintLast
end Go.Proofs.YtpbeaaihdmfnlaaDoorW.PrintLast
namespace Go.Proofs.YtpbeaaihdmfnlaaDoorW.PrintMore
end Go.Proofs.YtpbeaaihdmfnlaaDoorW.PrintMore
namespace Go.Proofs.YtpbeaaihdmfnlaaDoorW.PrintWords
end Go.Proofs.YtpbeaaihdmfnlaaDoorW.PrintWords

/- ### Gx11 -/
-- Written by a program for this seat: plain functions and their walks.
namespace Go.Proofs.YtpbeaaihdmfnlaaDoor.G
open Go.RowKit Go.Proofs.YtpbeaaihdmfnlaaDoor.H Go.Proofs.YtpbeaaihdmfnlaaDoorW.PrintWords Go.Proofs.YtpbeaaihdmfnlaaDoorW.PrintLast Go.Proofs.YtpbeaaihdmfnlaaDoorW.PrintMore
attribute [local go_sem] max2_int min2_int max_two min_two max_three min_three max_four min_four   -- for this text's walks alone
set_option linter.unusedVariables false
set_option linter.unusedSimpArgs false

/-! ### numnahlaw06_WettingHits: function 4 -/
mutual
def numnahlaw06_WettingHits.j0 : Nat → Int → List (S48) → List Int → List (List Int) → List Int → List Int → Bool → Option (Bool)
 | 0, _, _, _, _, _, _, _ => none
 | k + 1, x0, x7, x8, x9, x11, x14, x77 => if x77 = true then (some false) else (numnahlaw06_WettingHits.l0 k x0 x7 x8 x9 x11 x14 true true 0)
def numnahlaw06_WettingHits.l0 : Nat → Int → List (S48) → List Int → List (List Int) → List Int → List Int → Bool → Bool → Int → Option (Bool)
 | 0, _, _, _, _, _, _, _, _, _ => none
 | k + 1, x0, x7, x8, x9, x11, x14, x16, x17, x18 => if x18 < (x9.length : Int) then (if 0 ≤ x18 then ((numnahlaw06_within.f k x0 (rd_L3 x9 x18)).bind fun t269 => (if t269 = true then (numnahlaw06_WettingHits.j2 k x0 x7 x8 x9 x11 x14 x16 x17 x18 (decide (((rd_L3 x9 x18).length : Int) < 1))) else (numnahlaw06_WettingHits.j2 k x0 x7 x8 x9 x11 x14 x16 x17 x18 true))) else (none)) else (if (((x11.length : Int) == x0) == x16) = true then (if x17 = true then (if x16 = true then (if (x8.length : Int) ≥ (x14.length : Int) then ((numnahlaw06_awake.f).bind fun t266 => (some t266)) else (some false)) else ((numnahlaw06_awake.f).bind fun t267 => (some t267))) else (some false)) else (some false))
def numnahlaw06_WettingHits.j2 : Nat → Int → List (S48) → List Int → List (List Int) → List Int → List Int → Bool → Bool → Int → Bool → Option (Bool)
 | 0, _, _, _, _, _, _, _, _, _, _ => none
 | k + 1, x0, x7, x8, x9, x11, x14, x16, x17, x18, x98 => if x98 = true then (some false) else (if 0 ≤ x18 then (if x18 < (x9.length : Int) then ((wetting_IsFort.f x0 x7 (rd_L3 x9 x18)).bind fun bt272 => (if bt272.2 = 0 then (numnahlaw06_WettingHits.j3 k x0 x7 x8 x9 x11 x14 x16 x17 x18 (!bt272.1)) else (numnahlaw06_WettingHits.j3 k x0 x7 x8 x9 x11 x14 x16 x17 x18 true))) else (none)) else (none))
def numnahlaw06_WettingHits.j3 : Nat → Int → List (S48) → List Int → List (List Int) → List Int → List Int → Bool → Bool → Int → Bool → Option (Bool)
 | 0, _, _, _, _, _, _, _, _, _, _ => none
 | k + 1, x0, x7, x8, x9, x11, x14, x16, x17, x18, x114 => if x114 = true then (some false) else (if x16 = true then (if 0 ≤ x18 then (if x18 < (x9.length : Int) then ((numnahref06_Set.f k (rd_L3 x9 x18)).bind fun t275 => ((numnahref06_Set.f k x8).bind fun t276 => (numnahlaw06_WettingHits.j4 k x0 x7 x8 x9 x11 x14 ((Go.bits .and .i64 t275 t276) != 0) x17 x18))) else (none)) else (none)) else (numnahlaw06_WettingHits.j4 k x0 x7 x8 x9 x11 x14 false x17 x18))
def numnahlaw06_WettingHits.j4 : Nat → Int → List (S48) → List Int → List (List Int) → List Int → List Int → Bool → Bool → Int → Option (Bool)
 | 0, _, _, _, _, _, _, _, _, _ => none
 | k + 1, x0, x7, x8, x9, x11, x14, x16, x17, x18 => if x17 = true then (if 0 ≤ x18 then (if x18 < (x9.length : Int) then ((numnahref06_Set.f k (rd_L3 x9 x18)).bind fun t278 => ((numnahref06_Set.f k x14).bind fun t279 => (numnahlaw06_WettingHits.j5 k x0 x7 x8 x9 x11 x14 x16 ((Go.bits .and .i64 t278 t279) != 0) x18))) else (none)) else (none)) else (numnahlaw06_WettingHits.j5 k x0 x7 x8 x9 x11 x14 x16 false x18)
def numnahlaw06_WettingHits.j5 : Nat → Int → List (S48) → List Int → List (List Int) → List Int → List Int → Bool → Bool → Int → Option (Bool)
 | 0, _, _, _, _, _, _, _, _, _ => none
 | k + 1, x0, x7, x8, x9, x11, x14, x16, x17, x18 => numnahlaw06_WettingHits.l1 k x0 x7 x8 x9 x11 x14 x16 x17 x18 0
def numnahlaw06_WettingHits.l1 : Nat → Int → List (S48) → List Int → List (List Int) → List Int → List Int → Bool → Bool → Int → Int → Option (Bool)
 | 0, _, _, _, _, _, _, _, _, _, _ => none
 | k + 1, x0, x7, x8, x9, x11, x14, x16, x17, x18, x21 => if x21 < x18 then (if 0 ≤ x21 then (if x21 < (x9.length : Int) then ((numnahref06_Set.f k (rd_L3 x9 x21)).bind fun t281 => (if 0 ≤ x18 then (if x18 < (x9.length : Int) then ((numnahref06_Set.f k (rd_L3 x9 x18)).bind fun t283 => (if (Go.bits .andNot .i64 t281 t283) = 0 then (some false) else (numnahlaw06_WettingHits.l1 k x0 x7 x8 x9 x11 x14 x16 x17 x18 (wrap64 (x21 + 1))))) else (none)) else (none))) else (none)) else (none)) else (numnahlaw06_WettingHits.l0 k x0 x7 x8 x9 x11 x14 x16 x17 (wrap64 (x18 + 1)))
end
def numnahlaw06_WettingHits.f (k : Nat) (a0 : Int) (l1 : List (S48)) (a2 : Int) : Option (Bool) := (numnahlaw06_tame.f k a0 l1).bind fun bt244 => ((numnahlaw06_some.f k bt244.1 a2).bind fun t248 => ((wetting_Forts.f bt244.1 bt244.2).bind fun bt251 => ((wetting_Close.f bt244.1 bt244.2 t248).bind fun bt255 => ((wetting_Least.f bt244.1 bt244.2).bind fun bt260 => (if bt251.2 = 0 then (if bt255.2.2 = 0 then (if bt260.2 = 0 then (if (bt251.1.length : Int) < 1 then (numnahlaw06_WettingHits.j0 k bt244.1 bt244.2 t248 bt251.1 bt255.1 bt260.1 true) else ((numnahlaw06_within.f k bt244.1 bt255.1).bind fun t264 => (if t264 = true then ((numnahlaw06_within.f k bt244.1 bt260.1).bind fun t265 => (numnahlaw06_WettingHits.j0 k bt244.1 bt244.2 t248 bt251.1 bt255.1 bt260.1 (!t265))) else (numnahlaw06_WettingHits.j0 k bt244.1 bt244.2 t248 bt251.1 bt255.1 bt260.1 true)))) else (numnahlaw06_WettingHits.j0 k bt244.1 bt244.2 t248 bt251.1 bt255.1 bt260.1 true)) else (numnahlaw06_WettingHits.j0 k bt244.1 bt244.2 t248 bt251.1 bt255.1 bt260.1 true)) else (numnahlaw06_WettingHits.j0 k bt244.1 bt244.2 t248 bt251.1 bt255.1 bt260.1 true))))))
theorem numnahlaw06_WettingHits.mono_l : ∀ k, (∀ y0 y1 y2 y3 y4 y5 y6, LeO (numnahlaw06_WettingHits.j0 k y0 y1 y2 y3 y4 y5 y6) (numnahlaw06_WettingHits.j0 (k + 1) y0 y1 y2 y3 y4 y5 y6)) ∧ (∀ y0 y1 y2 y3 y4 y5 y6 y7 y8, LeO (numnahlaw06_WettingHits.l0 k y0 y1 y2 y3 y4 y5 y6 y7 y8) (numnahlaw06_WettingHits.l0 (k + 1) y0 y1 y2 y3 y4 y5 y6 y7 y8)) ∧ (∀ y0 y1 y2 y3 y4 y5 y6 y7 y8 y9, LeO (numnahlaw06_WettingHits.j2 k y0 y1 y2 y3 y4 y5 y6 y7 y8 y9) (numnahlaw06_WettingHits.j2 (k + 1) y0 y1 y2 y3 y4 y5 y6 y7 y8 y9)) ∧ (∀ y0 y1 y2 y3 y4 y5 y6 y7 y8 y9, LeO (numnahlaw06_WettingHits.j3 k y0 y1 y2 y3 y4 y5 y6 y7 y8 y9) (numnahlaw06_WettingHits.j3 (k + 1) y0 y1 y2 y3 y4 y5 y6 y7 y8 y9)) ∧ (∀ y0 y1 y2 y3 y4 y5 y6 y7 y8, LeO (numnahlaw06_WettingHits.j4 k y0 y1 y2 y3 y4 y5 y6 y7 y8) (numnahlaw06_WettingHits.j4 (k + 1) y0 y1 y2 y3 y4 y5 y6 y7 y8)) ∧ (∀ y0 y1 y2 y3 y4 y5 y6 y7 y8, LeO (numnahlaw06_WettingHits.j5 k y0 y1 y2 y3 y4 y5 y6 y7 y8) (numnahlaw06_WettingHits.j5 (k + 1) y0 y1 y2 y3 y4 y5 y6 y7 y8)) ∧ (∀ y0 y1 y2 y3 y4 y5 y6 y7 y8 y9, LeO (numnahlaw06_WettingHits.l1 k y0 y1 y2 y3 y4 y5 y6 y7 y8 y9) (numnahlaw06_WettingHits.l1 (k + 1) y0 y1 y2 y3 y4 y5 y6 y7 y8 y9))
 | 0 => ⟨fun _ _ _ _ _ _ _ r h => by simp [numnahlaw06_WettingHits.j0] at h, fun _ _ _ _ _ _ _ _ _ r h => by simp [numnahlaw06_WettingHits.l0] at h, fun _ _ _ _ _ _ _ _ _ _ r h => by simp [numnahlaw06_WettingHits.j2] at h, fun _ _ _ _ _ _ _ _ _ _ r h => by simp [numnahlaw06_WettingHits.j3] at h, fun _ _ _ _ _ _ _ _ _ r h => by simp [numnahlaw06_WettingHits.j4] at h, fun _ _ _ _ _ _ _ _ _ r h => by simp [numnahlaw06_WettingHits.j5] at h, fun _ _ _ _ _ _ _ _ _ _ r h => by simp [numnahlaw06_WettingHits.l1] at h⟩
 | k + 1 => by
  obtain ⟨ih0, ih1, ih2, ih3, ih4, ih5, ih6⟩ := numnahlaw06_WettingHits.mono_l k
  refine ⟨?_, ?_, ?_, ?_, ?_, ?_, ?_⟩
  ·intro y0 y1 y2 y3 y4 y5 y6
   unfold numnahlaw06_WettingHits.j0
   repeat' first
   | (with_reducible exact ih0 _ _ _ _ _ _ _)
   | (with_reducible exact ih1 _ _ _ _ _ _ _ _ _)
   | (with_reducible exact ih2 _ _ _ _ _ _ _ _ _ _)
   | (with_reducible exact ih3 _ _ _ _ _ _ _ _ _ _)
   | (with_reducible exact ih4 _ _ _ _ _ _ _ _ _)
   | (with_reducible exact ih5 _ _ _ _ _ _ _ _ _)
   | (with_reducible exact ih6 _ _ _ _ _ _ _ _ _ _)
   | (with_reducible exact numnahlaw06_some.mono _ _ _)
   | (with_reducible exact numnahlaw06_tame.mono _ _ _)
   | (with_reducible exact numnahlaw06_within.mono _ _ _)
   | (with_reducible exact numnahref06_Set.mono _ _)
   | (with_reducible exact LeO.refl _)
   | (with_reducible exact LeO.none _)
   | (with_reducible refine LeO.ite ?_ ?_)
   | (with_reducible refine LeO.bind ?_ (fun _ => ?_))
   | exact ih0 _ _ _ _ _ _ _
   | exact ih1 _ _ _ _ _ _ _ _ _
   | exact ih2 _ _ _ _ _ _ _ _ _ _
   | exact ih3 _ _ _ _ _ _ _ _ _ _
   | exact ih4 _ _ _ _ _ _ _ _ _
   | exact ih5 _ _ _ _ _ _ _ _ _
   | exact ih6 _ _ _ _ _ _ _ _ _ _
   | exact numnahlaw06_some.mono _ _ _
   | exact numnahlaw06_tame.mono _ _ _
   | exact numnahlaw06_within.mono _ _ _
   | exact numnahref06_Set.mono _ _
   | exact LeO.none _
   | refine LeO.ite ?_ ?_
   | refine LeO.bind ?_ (fun _ => ?_)
  ·intro y0 y1 y2 y3 y4 y5 y6 y7 y8
   unfold numnahlaw06_WettingHits.l0
   repeat' first
   | (with_reducible exact ih0 _ _ _ _ _ _ _)
   | (with_reducible exact ih1 _ _ _ _ _ _ _ _ _)
   | (with_reducible exact ih2 _ _ _ _ _ _ _ _ _ _)
   | (with_reducible exact ih3 _ _ _ _ _ _ _ _ _ _)
   | (with_reducible exact ih4 _ _ _ _ _ _ _ _ _)
   | (with_reducible exact ih5 _ _ _ _ _ _ _ _ _)
   | (with_reducible exact ih6 _ _ _ _ _ _ _ _ _ _)
   | (with_reducible exact numnahlaw06_some.mono _ _ _)
   | (with_reducible exact numnahlaw06_tame.mono _ _ _)
   | (with_reducible exact numnahlaw06_within.mono _ _ _)
   | (with_reducible exact numnahref06_Set.mono _ _)
   | (with_reducible exact LeO.refl _)
   | (with_reducible exact LeO.none _)
   | (with_reducible refine LeO.ite ?_ ?_)
   | (with_reducible refine LeO.bind ?_ (fun _ => ?_))
   | exact ih0 _ _ _ _ _ _ _
   | exact ih1 _ _ _ _ _ _ _ _ _
   | exact ih2 _ _ _ _ _ _ _ _ _ _
   | exact ih3 _ _ _ _ _ _ _ _ _ _
   | exact ih4 _ _ _ _ _ _ _ _ _
   | exact ih5 _ _ _ _ _ _ _ _ _
   | exact ih6 _ _ _ _ _ _ _ _ _ _
   | exact numnahlaw06_some.mono _ _ _
   | exact numnahlaw06_tame.mono _ _ _
   | exact numnahlaw06_within.mono _ _ _
   | exact numnahref06_Set.mono _ _
   | exact LeO.none _
   | refine LeO.ite ?_ ?_
   | refine LeO.bind ?_ (fun _ => ?_)
  ·intro y0 y1 y2 y3 y4 y5 y6 y7 y8 y9
   unfold numnahlaw06_WettingHits.j2
   repeat' first
   | (with_reducible exact ih0 _ _ _ _ _ _ _)
   | (with_reducible exact ih1 _ _ _ _ _ _ _ _ _)
   | (with_reducible exact ih2 _ _ _ _ _ _ _ _ _ _)
   | (with_reducible exact ih3 _ _ _ _ _ _ _ _ _ _)
   | (with_reducible exact ih4 _ _ _ _ _ _ _ _ _)
   | (with_reducible exact ih5 _ _ _ _ _ _ _ _ _)
   | (with_reducible exact ih6 _ _ _ _ _ _ _ _ _ _)
   | (with_reducible exact numnahlaw06_some.mono _ _ _)
   | (with_reducible exact numnahlaw06_tame.mono _ _ _)
   | (with_reducible exact numnahlaw06_within.mono _ _ _)
   | (with_reducible exact numnahref06_Set.mono _ _)
   | (with_reducible exact LeO.refl _)
   | (with_reducible exact LeO.none _)
   | (with_reducible refine LeO.ite ?_ ?_)
   | (with_reducible refine LeO.bind ?_ (fun _ => ?_))
   | exact ih0 _ _ _ _ _ _ _
   | exact ih1 _ _ _ _ _ _ _ _ _
   | exact ih2 _ _ _ _ _ _ _ _ _ _
   | exact ih3 _ _ _ _ _ _ _ _ _ _
   | exact ih4 _ _ _ _ _ _ _ _ _
   | exact ih5 _ _ _ _ _ _ _ _ _
   | exact ih6 _ _ _ _ _ _ _ _ _ _
   | exact numnahlaw06_some.mono _ _ _
   | exact numnahlaw06_tame.mono _ _ _
   | exact numnahlaw06_within.mono _ _ _
   | exact numnahref06_Set.mono _ _
   | exact LeO.none _
   | refine LeO.ite ?_ ?_
   | refine LeO.bind ?_ (fun _ => ?_)
  ·intro y0 y1 y2 y3 y4 y5 y6 y7 y8 y9
   unfold numnahlaw06_WettingHits.j3
   repeat' first
   | (with_reducible exact ih0 _ _ _ _ _ _ _)
   | (with_reducible exact ih1 _ _ _ _ _ _ _ _ _)
   | (with_reducible exact ih2 _ _ _ _ _ _ _ _ _ _)
   | (with_reducible exact ih3 _ _ _ _ _ _ _ _ _ _)
   | (with_reducible exact ih4 _ _ _ _ _ _ _ _ _)
   | (with_reducible exact ih5 _ _ _ _ _ _ _ _ _)
   | (with_reducible exact ih6 _ _ _ _ _ _ _ _ _ _)
   | (with_reducible exact numnahlaw06_some.mono _ _ _)
   | (with_reducible exact numnahlaw06_tame.mono _ _ _)
   | (with_reducible exact numnahlaw06_within.mono _ _ _)
   | (with_reducible exact numnahref06_Set.mono _ _)
   | (with_reducible exact LeO.refl _)
   | (with_reducible exact LeO.none _)
   | (with_reducible refine LeO.ite ?_ ?_)
   | (with_reducible refine LeO.bind ?_ (fun _ => ?_))
   | exact ih0 _ _ _ _ _ _ _
   | exact ih1 _ _ _ _ _ _ _ _ _
   | exact ih2 _ _ _ _ _ _ _ _ _ _
   | exact ih3 _ _ _ _ _ _ _ _ _ _
   | exact ih4 _ _ _ _ _ _ _ _ _
   | exact ih5 _ _ _ _ _ _ _ _ _
   | exact ih6 _ _ _ _ _ _ _ _ _ _
   | exact numnahlaw06_some.mono _ _ _
   | exact numnahlaw06_tame.mono _ _ _
   | exact numnahlaw06_within.mono _ _ _
   | exact numnahref06_Set.mono _ _
   | exact LeO.none _
   | refine LeO.ite ?_ ?_
   | refine LeO.bind ?_ (fun _ => ?_)
  ·intro y0 y1 y2 y3 y4 y5 y6 y7 y8
   unfold numnahlaw06_WettingHits.j4
   repeat' first
   | (with_reducible exact ih0 _ _ _ _ _ _ _)
   | (with_reducible exact ih1 _ _ _ _ _ _ _ _ _)
   | (with_reducible exact ih2 _ _ _ _ _ _ _ _ _ _)
   | (with_reducible exact ih3 _ _ _ _ _ _ _ _ _ _)
   | (with_reducible exact ih4 _ _ _ _ _ _ _ _ _)
   | (with_reducible exact ih5 _ _ _ _ _ _ _ _ _)
   | (with_reducible exact ih6 _ _ _ _ _ _ _ _ _ _)
   | (with_reducible exact numnahlaw06_some.mono _ _ _)
   | (with_reducible exact numnahlaw06_tame.mono _ _ _)
   | (with_reducible exact numnahlaw06_within.mono _ _ _)
   | (with_reducible exact numnahref06_Set.mono _ _)
   | (with_reducible exact LeO.refl _)
   | (with_reducible exact LeO.none _)
   | (with_reducible refine LeO.ite ?_ ?_)
   | (with_reducible refine LeO.bind ?_ (fun _ => ?_))
   | exact ih0 _ _ _ _ _ _ _
   | exact ih1 _ _ _ _ _ _ _ _ _
   | exact ih2 _ _ _ _ _ _ _ _ _ _
   | exact ih3 _ _ _ _ _ _ _ _ _ _
   | exact ih4 _ _ _ _ _ _ _ _ _
   | exact ih5 _ _ _ _ _ _ _ _ _
   | exact ih6 _ _ _ _ _ _ _ _ _ _
   | exact numnahlaw06_some.mono _ _ _
   | exact numnahlaw06_tame.mono _ _ _
   | exact numnahlaw06_within.mono _ _ _
   | exact numnahref06_Set.mono _ _
   | exact LeO.none _
   | refine LeO.ite ?_ ?_
   | refine LeO.bind ?_ (fun _ => ?_)
  ·intro y0 y1 y2 y3 y4 y5 y6 y7 y8
   unfold numnahlaw06_WettingHits.j5
   repeat' first
   | (with_reducible exact ih0 _ _ _ _ _ _ _)
   | (with_reducible exact ih1 _ _ _ _ _ _ _ _ _)
   | (with_reducible exact ih2 _ _ _ _ _ _ _ _ _ _)
   | (with_reducible exact ih3 _ _ _ _ _ _ _ _ _ _)
   | (with_reducible exact ih4 _ _ _ _ _ _ _ _ _)
   | (with_reducible exact ih5 _ _ _ _ _ _ _ _ _)
   | (with_reducible exact ih6 _ _ _ _ _ _ _ _ _ _)
   | (with_reducible exact numnahlaw06_some.mono _ _ _)
   | (with_reducible exact numnahlaw06_tame.mono _ _ _)
   | (with_reducible exact numnahlaw06_within.mono _ _ _)
   | (with_reducible exact numnahref06_Set.mono _ _)
   | (with_reducible exact LeO.refl _)
   | (with_reducible exact LeO.none _)
   | (with_reducible refine LeO.ite ?_ ?_)
   | (with_reducible refine LeO.bind ?_ (fun _ => ?_))
   | exact ih0 _ _ _ _ _ _ _
   | exact ih1 _ _ _ _ _ _ _ _ _
   | exact ih2 _ _ _ _ _ _ _ _ _ _
   | exact ih3 _ _ _ _ _ _ _ _ _ _
   | exact ih4 _ _ _ _ _ _ _ _ _
   | exact ih5 _ _ _ _ _ _ _ _ _
   | exact ih6 _ _ _ _ _ _ _ _ _ _
   | exact numnahlaw06_some.mono _ _ _
   | exact numnahlaw06_tame.mono _ _ _
   | exact numnahlaw06_within.mono _ _ _
   | exact numnahref06_Set.mono _ _
   | exact LeO.none _
   | refine LeO.ite ?_ ?_
   | refine LeO.bind ?_ (fun _ => ?_)
  ·intro y0 y1 y2 y3 y4 y5 y6 y7 y8 y9
   unfold numnahlaw06_WettingHits.l1
   repeat' first
   | (with_reducible exact ih0 _ _ _ _ _ _ _)
   | (with_reducible exact ih1 _ _ _ _ _ _ _ _ _)
   | (with_reducible exact ih2 _ _ _ _ _ _ _ _ _ _)
   | (with_reducible exact ih3 _ _ _ _ _ _ _ _ _ _)
   | (with_reducible exact ih4 _ _ _ _ _ _ _ _ _)
   | (with_reducible exact ih5 _ _ _ _ _ _ _ _ _)
   | (with_reducible exact ih6 _ _ _ _ _ _ _ _ _ _)
   | (with_reducible exact numnahlaw06_some.mono _ _ _)
   | (with_reducible exact numnahlaw06_tame.mono _ _ _)
   | (with_reducible exact numnahlaw06_within.mono _ _ _)
   | (with_reducible exact numnahref06_Set.mono _ _)
   | (with_reducible exact LeO.refl _)
   | (with_reducible exact LeO.none _)
   | (with_reducible refine LeO.ite ?_ ?_)
   | (with_reducible refine LeO.bind ?_ (fun _ => ?_))
   | exact ih0 _ _ _ _ _ _ _
   | exact ih1 _ _ _ _ _ _ _ _ _
   | exact ih2 _ _ _ _ _ _ _ _ _ _
   | exact ih3 _ _ _ _ _ _ _ _ _ _
   | exact ih4 _ _ _ _ _ _ _ _ _
   | exact ih5 _ _ _ _ _ _ _ _ _
   | exact ih6 _ _ _ _ _ _ _ _ _ _
   | exact numnahlaw06_some.mono _ _ _
   | exact numnahlaw06_tame.mono _ _ _
   | exact numnahlaw06_within.mono _ _ _
   | exact numnahref06_Set.mono _ _
   | exact LeO.none _
   | refine LeO.ite ?_ ?_
   | refine LeO.bind ?_ (fun _ => ?_)
theorem numnahlaw06_WettingHits.mono : ∀ a0 a1 a2 k, LeO (numnahlaw06_WettingHits.f k a0 a1 a2) (numnahlaw06_WettingHits.f (k + 1) a0 a1 a2) := by
 intro a0 a1 a2 k
 obtain ⟨ih0, ih1, ih2, ih3, ih4, ih5, ih6⟩ := numnahlaw06_WettingHits.mono_l k
 unfold numnahlaw06_WettingHits.f
 repeat' first
   | (with_reducible exact ih0 _ _ _ _ _ _ _)
   | (with_reducible exact ih1 _ _ _ _ _ _ _ _ _)
   | (with_reducible exact ih2 _ _ _ _ _ _ _ _ _ _)
   | (with_reducible exact ih3 _ _ _ _ _ _ _ _ _ _)
   | (with_reducible exact ih4 _ _ _ _ _ _ _ _ _)
   | (with_reducible exact ih5 _ _ _ _ _ _ _ _ _)
   | (with_reducible exact ih6 _ _ _ _ _ _ _ _ _ _)
   | (with_reducible exact numnahlaw06_some.mono _ _ _)
   | (with_reducible exact numnahlaw06_tame.mono _ _ _)
   | (with_reducible exact numnahlaw06_within.mono _ _ _)
   | (with_reducible exact numnahref06_Set.mono _ _)
   | (with_reducible exact LeO.refl _)
   | (with_reducible exact LeO.none _)
   | (with_reducible refine LeO.ite ?_ ?_)
   | (with_reducible refine LeO.bind ?_ (fun _ => ?_))
   | exact ih0 _ _ _ _ _ _ _
   | exact ih1 _ _ _ _ _ _ _ _ _
   | exact ih2 _ _ _ _ _ _ _ _ _ _
   | exact ih3 _ _ _ _ _ _ _ _ _ _
   | exact ih4 _ _ _ _ _ _ _ _ _
   | exact ih5 _ _ _ _ _ _ _ _ _
   | exact ih6 _ _ _ _ _ _ _ _ _ _
   | exact numnahlaw06_some.mono _ _ _
   | exact numnahlaw06_tame.mono _ _ _
   | exact numnahlaw06_within.mono _ _ _
   | exact numnahref06_Set.mono _ _
   | exact LeO.none _
   | refine LeO.ite ?_ ?_
   | refine LeO.bind ?_ (fun _ => ?_)
set_option maxHeartbeats 8000000 in
set_option maxRecDepth 100000 in
theorem numnahlaw06_WettingHits.calls (k : Nat) (a0 : Int) (A1 : Option Addr) (c1 : Nat) (l1 : List (S48)) (a2 : Int) (r : Bool) (w : World) (hr1 : Kd.C k48 w A1 l1.length l1) (hc1 : l1.length ≤ c1) (h : numnahlaw06_WettingHits.f k a0 l1 a2 = some r) (hT : Tab w) :
  Calls Tryd.prog 4 #[.int .i64 a0, .slice A1 l1.length c1, .int .i64 a2] w fun e w' => e = .returned (.bool r) ∧ Below w.heap.size w w' := by
 have HT := Aside0.mk hT
 clear hT
 have HR1 := Aside0.mk hr1
 have HC1 := Aside0.mk hc1
 clear hr1 hc1
 have HB := Aside0.mk (Below.refl w.heap.size w)
 have H : ((numnahlaw06_tame.f k a0 l1).bind fun bt244 => ((numnahlaw06_some.f k bt244.1 a2).bind fun t248 => ((wetting_Forts.f bt244.1 bt244.2).bind fun bt251 => ((wetting_Close.f bt244.1 bt244.2 t248).bind fun bt255 => ((wetting_Least.f bt244.1 bt244.2).bind fun bt260 => (if bt251.2 = 0 then (if bt255.2.2 = 0 then (if bt260.2 = 0 then (if (bt251.1.length : Int) < 1 then (numnahlaw06_WettingHits.j0 k bt244.1 bt244.2 t248 bt251.1 bt255.1 bt260.1 true) else ((numnahlaw06_within.f k bt244.1 bt255.1).bind fun t264 => (if t264 = true then ((numnahlaw06_within.f k bt244.1 bt260.1).bind fun t265 => (numnahlaw06_WettingHits.j0 k bt244.1 bt244.2 t248 bt251.1 bt255.1 bt260.1 (!t265))) else (numnahlaw06_WettingHits.j0 k bt244.1 bt244.2 t248 bt251.1 bt255.1 bt260.1 true)))) else (numnahlaw06_WettingHits.j0 k bt244.1 bt244.2 t248 bt251.1 bt255.1 bt260.1 true)) else (numnahlaw06_WettingHits.j0 k bt244.1 bt244.2 t248 bt251.1 bt255.1 bt260.1 true)) else (numnahlaw06_WettingHits.j0 k bt244.1 bt244.2 t248 bt251.1 bt255.1 bt260.1 true))))))) = some r := h
 clear h
 replace H := Option.bind_eq_some_iff.mp H
 obtain ⟨⟨t244, t245⟩, A40, H⟩ := H
 replace H : ((numnahlaw06_some.f k t244 a2).bind fun t248 => ((wetting_Forts.f t244 t245).bind fun bt251 => ((wetting_Close.f t244 t245 t248).bind fun bt255 => ((wetting_Least.f t244 t245).bind fun bt260 => (if bt251.2 = 0 then (if bt255.2.2 = 0 then (if bt260.2 = 0 then (if (bt251.1.length : Int) < 1 then (numnahlaw06_WettingHits.j0 k t244 t245 t248 bt251.1 bt255.1 bt260.1 true) else ((numnahlaw06_within.f k t244 bt255.1).bind fun t264 => (if t264 = true then ((numnahlaw06_within.f k t244 bt260.1).bind fun t265 => (numnahlaw06_WettingHits.j0 k t244 t245 t248 bt251.1 bt255.1 bt260.1 (!t265))) else (numnahlaw06_WettingHits.j0 k t244 t245 t248 bt251.1 bt255.1 bt260.1 true)))) else (numnahlaw06_WettingHits.j0 k t244 t245 t248 bt251.1 bt255.1 bt260.1 true)) else (numnahlaw06_WettingHits.j0 k t244 t245 t248 bt251.1 bt255.1 bt260.1 true)) else (numnahlaw06_WettingHits.j0 k t244 t245 t248 bt251.1 bt255.1 bt260.1 true)))))) = some r := H
 have A4 := Aside0.mk A40
 clear A40
 replace H := Option.bind_eq_some_iff.mp H
 obtain ⟨t248, A50, H⟩ := H
 replace H : ((wetting_Forts.f t244 t245).bind fun bt251 => ((wetting_Close.f t244 t245 t248).bind fun bt255 => ((wetting_Least.f t244 t245).bind fun bt260 => (if bt251.2 = 0 then (if bt255.2.2 = 0 then (if bt260.2 = 0 then (if (bt251.1.length : Int) < 1 then (numnahlaw06_WettingHits.j0 k t244 t245 t248 bt251.1 bt255.1 bt260.1 true) else ((numnahlaw06_within.f k t244 bt255.1).bind fun t264 => (if t264 = true then ((numnahlaw06_within.f k t244 bt260.1).bind fun t265 => (numnahlaw06_WettingHits.j0 k t244 t245 t248 bt251.1 bt255.1 bt260.1 (!t265))) else (numnahlaw06_WettingHits.j0 k t244 t245 t248 bt251.1 bt255.1 bt260.1 true)))) else (numnahlaw06_WettingHits.j0 k t244 t245 t248 bt251.1 bt255.1 bt260.1 true)) else (numnahlaw06_WettingHits.j0 k t244 t245 t248 bt251.1 bt255.1 bt260.1 true)) else (numnahlaw06_WettingHits.j0 k t244 t245 t248 bt251.1 bt255.1 bt260.1 true))))) = some r := H
 have A5 := Aside0.mk A50
 clear A50
 replace H := Option.bind_eq_some_iff.mp H
 obtain ⟨⟨t251, t252⟩, A60, H⟩ := H
 replace H : ((wetting_Close.f t244 t245 t248).bind fun bt255 => ((wetting_Least.f t244 t245).bind fun bt260 => (if t252 = 0 then (if bt255.2.2 = 0 then (if bt260.2 = 0 then (if (t251.length : Int) < 1 then (numnahlaw06_WettingHits.j0 k t244 t245 t248 t251 bt255.1 bt260.1 true) else ((numnahlaw06_within.f k t244 bt255.1).bind fun t264 => (if t264 = true then ((numnahlaw06_within.f k t244 bt260.1).bind fun t265 => (numnahlaw06_WettingHits.j0 k t244 t245 t248 t251 bt255.1 bt260.1 (!t265))) else (numnahlaw06_WettingHits.j0 k t244 t245 t248 t251 bt255.1 bt260.1 true)))) else (numnahlaw06_WettingHits.j0 k t244 t245 t248 t251 bt255.1 bt260.1 true)) else (numnahlaw06_WettingHits.j0 k t244 t245 t248 t251 bt255.1 bt260.1 true)) else (numnahlaw06_WettingHits.j0 k t244 t245 t248 t251 bt255.1 bt260.1 true)))) = some r := H
 have A6 := Aside0.mk A60
 clear A60
 replace H := Option.bind_eq_some_iff.mp H
 obtain ⟨⟨t255, t256, t257⟩, A70, H⟩ := H
 replace H : ((wetting_Least.f t244 t245).bind fun bt260 => (if t252 = 0 then (if t257 = 0 then (if bt260.2 = 0 then (if (t251.length : Int) < 1 then (numnahlaw06_WettingHits.j0 k t244 t245 t248 t251 t255 bt260.1 true) else ((numnahlaw06_within.f k t244 t255).bind fun t264 => (if t264 = true then ((numnahlaw06_within.f k t244 bt260.1).bind fun t265 => (numnahlaw06_WettingHits.j0 k t244 t245 t248 t251 t255 bt260.1 (!t265))) else (numnahlaw06_WettingHits.j0 k t244 t245 t248 t251 t255 bt260.1 true)))) else (numnahlaw06_WettingHits.j0 k t244 t245 t248 t251 t255 bt260.1 true)) else (numnahlaw06_WettingHits.j0 k t244 t245 t248 t251 t255 bt260.1 true)) else (numnahlaw06_WettingHits.j0 k t244 t245 t248 t251 t255 bt260.1 true))) = some r := H
 have A7 := Aside0.mk A70
 clear A70
 replace H := Option.bind_eq_some_iff.mp H
 obtain ⟨⟨t260, t261⟩, A80, H⟩ := H
 replace H : (if t252 = 0 then (if t257 = 0 then (if t261 = 0 then (if (t251.length : Int) < 1 then (numnahlaw06_WettingHits.j0 k t244 t245 t248 t251 t255 t260 true) else ((numnahlaw06_within.f k t244 t255).bind fun t264 => (if t264 = true then ((numnahlaw06_within.f k t244 t260).bind fun t265 => (numnahlaw06_WettingHits.j0 k t244 t245 t248 t251 t255 t260 (!t265))) else (numnahlaw06_WettingHits.j0 k t244 t245 t248 t251 t255 t260 true)))) else (numnahlaw06_WettingHits.j0 k t244 t245 t248 t251 t255 t260 true)) else (numnahlaw06_WettingHits.j0 k t244 t245 t248 t251 t255 t260 true)) else (numnahlaw06_WettingHits.j0 k t244 t245 t248 t251 t255 t260 true)) = some r := H
 have A8 := Aside0.mk A80
 clear A80
 have HC9 := Aside0.mk H
 clear H
 go_enter Tryd.func4, Tryd.ntmps4
 go_upto_region 6 with (first | (go_at_call 27; (with_reducible refine (numnahlaw06_tame.calls k a0 _ _ l1 t244 t245 _ ?side1 ?side2 A4.out).mono ?_); (case side1 => repeat (first | exact HR1.out | (with_reducible refine Kd.C_alloc ?_ _) | (with_reducible refine Kd.C_drewN ?_ _) | (with_reducible refine Kd.C_drew ?_))); (case side2 => exact HC1.out); rintro e w10 ⟨v246, rfl, ho0, hb⟩; have n0_ := Aside0.mk (Kd.R_lower ho0 (below_size (by repeat (first | (with_reducible first | exact HB.out | apply below_alloc | apply pw_below_drewN | apply below_drew1) | exact HB.out)))); have n1_ := Aside0.mk (below_step (by repeat (first | (with_reducible first | exact HB.out | apply below_alloc | apply pw_below_drewN | apply below_drew1) | exact HB.out)) hb); clear HB; have HO247 := n0_; have HB := n1_; clear n0_ n1_; (try clear hb); (try clear hb2); (try clear hk); (try clear hi); (try clear ho0)) | (go_at_call 28; (with_reducible refine (numnahlaw06_some.calls k t244 a2 t248 _ A5.out).mono ?_); rintro e w11 ⟨v249, rfl, ho0, hb⟩; have n0_ := Aside0.mk (Kd.R_below (by (with_reducible repeat (first | apply Kd.R_alloc | apply Kd.R_drewN | apply Kd.R_drew)); exact HO247.out) hb); have n1_ := Aside0.mk (Kd.R_lower ho0 (below_size (by repeat (first | (with_reducible first | exact HB.out | apply below_alloc | apply pw_below_drewN | apply below_drew1) | exact HB.out)))); have n2_ := Aside0.mk (below_step (by repeat (first | (with_reducible first | exact HB.out | apply below_alloc | apply pw_below_drewN | apply below_drew1) | exact HB.out)) hb); clear HO247; clear HB; have HO247 := n0_; have HO250 := n1_; have HB := n2_; clear n0_ n1_ n2_; (try clear hb); (try clear hb2); (try clear hk); (try clear hi); (try clear ho0); obtain ⟨Ao12, co12, eo12⟩ := Kd.R_slice HO247.out; subst eo12) | (go_at_call 19; (with_reducible refine (wetting_Forts.calls t244 _ _ t245 t251 t252 _ ?side1 ?side2 A6.out ?sideT).mono ?_); (case sideT => exact tab_of (by repeat (first | (with_reducible first | exact HB.out | apply below_alloc | apply pw_below_drewN | apply below_drew1) | exact HB.out)) HT.out); (case side1 => repeat (first | exact (Kd.R_reads' HO247.out).2.2 | (with_reducible refine Kd.C_alloc ?_ _) | (with_reducible refine Kd.C_drewN ?_ _) | (with_reducible refine Kd.C_drew ?_))); (case side2 => exact (Kd.R_reads' HO247.out).2.1); rintro e w13 ⟨v253, rfl, ho0, hb⟩; have n0_ := Aside0.mk (Kd.R_below (by (with_reducible repeat (first | apply Kd.R_alloc | apply Kd.R_drewN | apply Kd.R_drew)); exact HO247.out) hb); have n1_ := Aside0.mk (Kd.R_below (by (with_reducible repeat (first | apply Kd.R_alloc | apply Kd.R_drewN | apply Kd.R_drew)); exact HO250.out) hb); have n2_ := Aside0.mk (Kd.S_lower (Kd.S_new' ho0 (Kd.R_lt (by (with_reducible repeat (first | apply Kd.R_alloc | apply Kd.R_drewN | apply Kd.R_drew)); exact HO250.out))) (below_size (by repeat (first | (with_reducible first | exact HB.out | apply below_alloc | apply pw_below_drewN | apply below_drew1) | exact HB.out)))); have n3_ := Aside0.mk (below_step (by repeat (first | (with_reducible first | exact HB.out | apply below_alloc | apply pw_below_drewN | apply below_drew1) | exact HB.out)) hb); clear HO247; clear HO250; clear HB; have HO247 := n0_; have HO250 := n1_; have HO254 := n2_; have HB := n3_; clear n0_ n1_ n2_ n3_; (try clear hb); (try clear hb2); (try clear hk); (try clear hi); (try clear ho0); obtain ⟨Ao14, co14, eo14⟩ := Kd.R_slice HO250.out; subst eo14) | (go_at_call 29; (with_reducible refine (wetting_Close.calls t244 _ _ t245 _ _ t248 t255 t256 t257 _ ?side1 ?side2 ?side3 ?side4 A7.out ?sideT).mono ?_); (case sideT => exact tab_of (by repeat (first | (with_reducible first | exact HB.out | apply below_alloc | apply pw_below_drewN | apply below_drew1) | exact HB.out)) HT.out); (case side1 => repeat (first | exact (Kd.R_reads' HO247.out).2.2 | (with_reducible refine Kd.C_alloc ?_ _) | (with_reducible refine Kd.C_drewN ?_ _) | (with_reducible refine Kd.C_drew ?_))); (case side2 => exact (Kd.R_reads' HO247.out).2.1); (case side3 => repeat (first | exact (Kd.R_reads' HO250.out).2.2 | (with_reducible refine Kd.C_alloc ?_ _) | (with_reducible refine Kd.C_drewN ?_ _) | (with_reducible refine Kd.C_drew ?_))); (case side4 => exact (Kd.R_reads' HO250.out).2.1); rintro e w15 ⟨v258, rfl, ho0, hb⟩; have n0_ := Aside0.mk (Kd.R_below (by (with_reducible repeat (first | apply Kd.R_alloc | apply Kd.R_drewN | apply Kd.R_drew)); exact HO247.out) hb); have n1_ := Aside0.mk (Kd.R_elder' (by (with_reducible repeat (first | apply Kd.R_alloc | apply Kd.R_drewN | apply Kd.R_drew)); exact HO250.out) (Kd.R_base ho0) hb); have n2_ := Aside0.mk (Kd.S_elder' (by (with_reducible repeat (first | apply Kd.S_alloc | apply Kd.S_drewN | apply Kd.S_drew)); exact HO254.out) (Kd.R_base ho0) hb); have n3_ := Aside0.mk (Kd.R_lower (Kd.R_new' ho0 (Kd.R_lt (by (with_reducible repeat (first | apply Kd.R_alloc | apply Kd.R_drewN | apply Kd.R_drew)); exact HO250.out))) (below_size (by repeat (first | (with_reducible first | exact HB.out | apply below_alloc | apply pw_below_drewN | apply below_drew1) | exact HB.out)))); have n4_ := Aside0.mk (below_step (by repeat (first | (with_reducible first | exact HB.out | apply below_alloc | apply pw_below_drewN | apply below_drew1) | exact HB.out)) hb); clear HO247; clear HO250; clear HO254; clear HB; have HO247 := n0_; have HO250 := n1_; have HO254 := n2_; have HO259 := n3_; have HB := n4_; clear n0_ n1_ n2_ n3_ n4_; (try clear hb); (try clear hb2); (try clear hk); (try clear hi); (try clear ho0)) | (go_at_call 18; (with_reducible refine (wetting_Least.calls t244 _ _ t245 t260 t261 _ ?side1 ?side2 A8.out ?sideT).mono ?_); (case sideT => exact tab_of (by repeat (first | (with_reducible first | exact HB.out | apply below_alloc | apply pw_below_drewN | apply below_drew1) | exact HB.out)) HT.out); (case side1 => repeat (first | exact (Kd.R_reads' HO247.out).2.2 | (with_reducible refine Kd.C_alloc ?_ _) | (with_reducible refine Kd.C_drewN ?_ _) | (with_reducible refine Kd.C_drew ?_))); (case side2 => exact (Kd.R_reads' HO247.out).2.1); rintro e w16 ⟨v262, rfl, ho0, hb⟩; have n0_ := Aside0.mk (Kd.R_below (by (with_reducible repeat (first | apply Kd.R_alloc | apply Kd.R_drewN | apply Kd.R_drew)); exact HO247.out) hb); have n1_ := Aside0.mk (Kd.R_elder' (by (with_reducible repeat (first | apply Kd.R_alloc | apply Kd.R_drewN | apply Kd.R_drew)); exact HO250.out) (Kd.R_base ho0) hb); have n2_ := Aside0.mk (Kd.S_elder' (by (with_reducible repeat (first | apply Kd.S_alloc | apply Kd.S_drewN | apply Kd.S_drew)); exact HO254.out) (Kd.R_base ho0) hb); have n3_ := Aside0.mk (Kd.R_elder' (by (with_reducible repeat (first | apply Kd.R_alloc | apply Kd.R_drewN | apply Kd.R_drew)); exact HO259.out) (Kd.R_base ho0) hb); have n4_ := Aside0.mk (Kd.R_lower (Kd.R_new' (Kd.R_new' ho0 (Kd.R_lt (by (with_reducible repeat (first | apply Kd.R_alloc | apply Kd.R_drewN | apply Kd.R_drew)); exact HO250.out))) (Kd.R_lt (by (with_reducible repeat (first | apply Kd.R_alloc | apply Kd.R_drewN | apply Kd.R_drew)); exact HO259.out))) (below_size (by repeat (first | (with_reducible first | exact HB.out | apply below_alloc | apply pw_below_drewN | apply below_drew1) | exact HB.out)))); have n5_ := Aside0.mk (below_step (by repeat (first | (with_reducible first | exact HB.out | apply below_alloc | apply pw_below_drewN | apply below_drew1) | exact HB.out)) hb); clear HO247; clear HO250; clear HO254; clear HO259; clear HB; have HO247 := n0_; have HO250 := n1_; have HO254 := n2_; have HO259 := n3_; have HO263 := n4_; have HB := n5_; clear n0_ n1_ n2_ n3_ n4_ n5_; (try clear hb); (try clear hb2); (try clear hk); (try clear hi); (try clear ho0)))
 repeat (go_quiet (first | (go_at_call 27; (with_reducible refine (numnahlaw06_tame.calls k a0 _ _ l1 t244 t245 _ ?side1 ?side2 A4.out).mono ?_); (case side1 => repeat (first | exact HR1.out | (with_reducible refine Kd.C_alloc ?_ _) | (with_reducible refine Kd.C_drewN ?_ _) | (with_reducible refine Kd.C_drew ?_))); (case side2 => exact HC1.out); rintro e w10 ⟨v246, rfl, ho0, hb⟩; have n0_ := Aside0.mk (Kd.R_lower ho0 (below_size (by repeat (first | (with_reducible first | exact HB.out | apply below_alloc | apply pw_below_drewN | apply below_drew1) | exact HB.out)))); have n1_ := Aside0.mk (below_step (by repeat (first | (with_reducible first | exact HB.out | apply below_alloc | apply pw_below_drewN | apply below_drew1) | exact HB.out)) hb); clear HB; have HO247 := n0_; have HB := n1_; clear n0_ n1_; (try clear hb); (try clear hb2); (try clear hk); (try clear hi); (try clear ho0)) | (go_at_call 28; (with_reducible refine (numnahlaw06_some.calls k t244 a2 t248 _ A5.out).mono ?_); rintro e w11 ⟨v249, rfl, ho0, hb⟩; have n0_ := Aside0.mk (Kd.R_below (by (with_reducible repeat (first | apply Kd.R_alloc | apply Kd.R_drewN | apply Kd.R_drew)); exact HO247.out) hb); have n1_ := Aside0.mk (Kd.R_lower ho0 (below_size (by repeat (first | (with_reducible first | exact HB.out | apply below_alloc | apply pw_below_drewN | apply below_drew1) | exact HB.out)))); have n2_ := Aside0.mk (below_step (by repeat (first | (with_reducible first | exact HB.out | apply below_alloc | apply pw_below_drewN | apply below_drew1) | exact HB.out)) hb); clear HO247; clear HB; have HO247 := n0_; have HO250 := n1_; have HB := n2_; clear n0_ n1_ n2_; (try clear hb); (try clear hb2); (try clear hk); (try clear hi); (try clear ho0); obtain ⟨Ao12, co12, eo12⟩ := Kd.R_slice HO247.out; subst eo12) | (go_at_call 19; (with_reducible refine (wetting_Forts.calls t244 _ _ t245 t251 t252 _ ?side1 ?side2 A6.out ?sideT).mono ?_); (case sideT => exact tab_of (by repeat (first | (with_reducible first | exact HB.out | apply below_alloc | apply pw_below_drewN | apply below_drew1) | exact HB.out)) HT.out); (case side1 => repeat (first | exact (Kd.R_reads' HO247.out).2.2 | (with_reducible refine Kd.C_alloc ?_ _) | (with_reducible refine Kd.C_drewN ?_ _) | (with_reducible refine Kd.C_drew ?_))); (case side2 => exact (Kd.R_reads' HO247.out).2.1); rintro e w13 ⟨v253, rfl, ho0, hb⟩; have n0_ := Aside0.mk (Kd.R_below (by (with_reducible repeat (first | apply Kd.R_alloc | apply Kd.R_drewN | apply Kd.R_drew)); exact HO247.out) hb); have n1_ := Aside0.mk (Kd.R_below (by (with_reducible repeat (first | apply Kd.R_alloc | apply Kd.R_drewN | apply Kd.R_drew)); exact HO250.out) hb); have n2_ := Aside0.mk (Kd.S_lower (Kd.S_new' ho0 (Kd.R_lt (by (with_reducible repeat (first | apply Kd.R_alloc | apply Kd.R_drewN | apply Kd.R_drew)); exact HO250.out))) (below_size (by repeat (first | (with_reducible first | exact HB.out | apply below_alloc | apply pw_below_drewN | apply below_drew1) | exact HB.out)))); have n3_ := Aside0.mk (below_step (by repeat (first | (with_reducible first | exact HB.out | apply below_alloc | apply pw_below_drewN | apply below_drew1) | exact HB.out)) hb); clear HO247; clear HO250; clear HB; have HO247 := n0_; have HO250 := n1_; have HO254 := n2_; have HB := n3_; clear n0_ n1_ n2_ n3_; (try clear hb); (try clear hb2); (try clear hk); (try clear hi); (try clear ho0); obtain ⟨Ao14, co14, eo14⟩ := Kd.R_slice HO250.out; subst eo14) | (go_at_call 29; (with_reducible refine (wetting_Close.calls t244 _ _ t245 _ _ t248 t255 t256 t257 _ ?side1 ?side2 ?side3 ?side4 A7.out ?sideT).mono ?_); (case sideT => exact tab_of (by repeat (first | (with_reducible first | exact HB.out | apply below_alloc | apply pw_below_drewN | apply below_drew1) | exact HB.out)) HT.out); (case side1 => repeat (first | exact (Kd.R_reads' HO247.out).2.2 | (with_reducible refine Kd.C_alloc ?_ _) | (with_reducible refine Kd.C_drewN ?_ _) | (with_reducible refine Kd.C_drew ?_))); (case side2 => exact (Kd.R_reads' HO247.out).2.1); (case side3 => repeat (first | exact (Kd.R_reads' HO250.out).2.2 | (with_reducible refine Kd.C_alloc ?_ _) | (with_reducible refine Kd.C_drewN ?_ _) | (with_reducible refine Kd.C_drew ?_))); (case side4 => exact (Kd.R_reads' HO250.out).2.1); rintro e w15 ⟨v258, rfl, ho0, hb⟩; have n0_ := Aside0.mk (Kd.R_below (by (with_reducible repeat (first | apply Kd.R_alloc | apply Kd.R_drewN | apply Kd.R_drew)); exact HO247.out) hb); have n1_ := Aside0.mk (Kd.R_elder' (by (with_reducible repeat (first | apply Kd.R_alloc | apply Kd.R_drewN | apply Kd.R_drew)); exact HO250.out) (Kd.R_base ho0) hb); have n2_ := Aside0.mk (Kd.S_elder' (by (with_reducible repeat (first | apply Kd.S_alloc | apply Kd.S_drewN | apply Kd.S_drew)); exact HO254.out) (Kd.R_base ho0) hb); have n3_ := Aside0.mk (Kd.R_lower (Kd.R_new' ho0 (Kd.R_lt (by (with_reducible repeat (first | apply Kd.R_alloc | apply Kd.R_drewN | apply Kd.R_drew)); exact HO250.out))) (below_size (by repeat (first | (with_reducible first | exact HB.out | apply below_alloc | apply pw_below_drewN | apply below_drew1) | exact HB.out)))); have n4_ := Aside0.mk (below_step (by repeat (first | (with_reducible first | exact HB.out | apply below_alloc | apply pw_below_drewN | apply below_drew1) | exact HB.out)) hb); clear HO247; clear HO250; clear HO254; clear HB; have HO247 := n0_; have HO250 := n1_; have HO254 := n2_; have HO259 := n3_; have HB := n4_; clear n0_ n1_ n2_ n3_ n4_; (try clear hb); (try clear hb2); (try clear hk); (try clear hi); (try clear ho0)) | (go_at_call 18; (with_reducible refine (wetting_Least.calls t244 _ _ t245 t260 t261 _ ?side1 ?side2 A8.out ?sideT).mono ?_); (case sideT => exact tab_of (by repeat (first | (with_reducible first | exact HB.out | apply below_alloc | apply pw_below_drewN | apply below_drew1) | exact HB.out)) HT.out); (case side1 => repeat (first | exact (Kd.R_reads' HO247.out).2.2 | (with_reducible refine Kd.C_alloc ?_ _) | (with_reducible refine Kd.C_drewN ?_ _) | (with_reducible refine Kd.C_drew ?_))); (case side2 => exact (Kd.R_reads' HO247.out).2.1); rintro e w16 ⟨v262, rfl, ho0, hb⟩; have n0_ := Aside0.mk (Kd.R_below (by (with_reducible repeat (first | apply Kd.R_alloc | apply Kd.R_drewN | apply Kd.R_drew)); exact HO247.out) hb); have n1_ := Aside0.mk (Kd.R_elder' (by (with_reducible repeat (first | apply Kd.R_alloc | apply Kd.R_drewN | apply Kd.R_drew)); exact HO250.out) (Kd.R_base ho0) hb); have n2_ := Aside0.mk (Kd.S_elder' (by (with_reducible repeat (first | apply Kd.S_alloc | apply Kd.S_drewN | apply Kd.S_drew)); exact HO254.out) (Kd.R_base ho0) hb); have n3_ := Aside0.mk (Kd.R_elder' (by (with_reducible repeat (first | apply Kd.R_alloc | apply Kd.R_drewN | apply Kd.R_drew)); exact HO259.out) (Kd.R_base ho0) hb); have n4_ := Aside0.mk (Kd.R_lower (Kd.R_new' (Kd.R_new' ho0 (Kd.R_lt (by (with_reducible repeat (first | apply Kd.R_alloc | apply Kd.R_drewN | apply Kd.R_drew)); exact HO250.out))) (Kd.R_lt (by (with_reducible repeat (first | apply Kd.R_alloc | apply Kd.R_drewN | apply Kd.R_drew)); exact HO259.out))) (below_size (by repeat (first | (with_reducible first | exact HB.out | apply below_alloc | apply pw_below_drewN | apply below_drew1) | exact HB.out)))); have n5_ := Aside0.mk (below_step (by repeat (first | (with_reducible first | exact HB.out | apply below_alloc | apply pw_below_drewN | apply below_drew1) | exact HB.out)) hb); clear HO247; clear HO250; clear HO254; clear HO259; clear HB; have HO247 := n0_; have HO250 := n1_; have HO254 := n2_; have HO259 := n3_; have HO263 := n4_; have HB := n5_; clear n0_ n1_ n2_ n3_ n4_ n5_; (try clear hb); (try clear hb2); (try clear hk); (try clear hi); (try clear ho0))); go_upto_region 6 with (first | (go_at_call 27; (with_reducible refine (numnahlaw06_tame.calls k a0 _ _ l1 t244 t245 _ ?side1 ?side2 A4.out).mono ?_); (case side1 => repeat (first | exact HR1.out | (with_reducible refine Kd.C_alloc ?_ _) | (with_reducible refine Kd.C_drewN ?_ _) | (with_reducible refine Kd.C_drew ?_))); (case side2 => exact HC1.out); rintro e w10 ⟨v246, rfl, ho0, hb⟩; have n0_ := Aside0.mk (Kd.R_lower ho0 (below_size (by repeat (first | (with_reducible first | exact HB.out | apply below_alloc | apply pw_below_drewN | apply below_drew1) | exact HB.out)))); have n1_ := Aside0.mk (below_step (by repeat (first | (with_reducible first | exact HB.out | apply below_alloc | apply pw_below_drewN | apply below_drew1) | exact HB.out)) hb); clear HB; have HO247 := n0_; have HB := n1_; clear n0_ n1_; (try clear hb); (try clear hb2); (try clear hk); (try clear hi); (try clear ho0)) | (go_at_call 28; (with_reducible refine (numnahlaw06_some.calls k t244 a2 t248 _ A5.out).mono ?_); rintro e w11 ⟨v249, rfl, ho0, hb⟩; have n0_ := Aside0.mk (Kd.R_below (by (with_reducible repeat (first | apply Kd.R_alloc | apply Kd.R_drewN | apply Kd.R_drew)); exact HO247.out) hb); have n1_ := Aside0.mk (Kd.R_lower ho0 (below_size (by repeat (first | (with_reducible first | exact HB.out | apply below_alloc | apply pw_below_drewN | apply below_drew1) | exact HB.out)))); have n2_ := Aside0.mk (below_step (by repeat (first | (with_reducible first | exact HB.out | apply below_alloc | apply pw_below_drewN | apply below_drew1) | exact HB.out)) hb); clear HO247; clear HB; have HO247 := n0_; have HO250 := n1_; have HB := n2_; clear n0_ n1_ n2_; (try clear hb); (try clear hb2); (try clear hk); (try clear hi); (try clear ho0); obtain ⟨Ao12, co12, eo12⟩ := Kd.R_slice HO247.out; subst eo12) | (go_at_call 19; (with_reducible refine (wetting_Forts.calls t244 _ _ t245 t251 t252 _ ?side1 ?side2 A6.out ?sideT).mono ?_); (case sideT => exact tab_of (by repeat (first | (with_reducible first | exact HB.out | apply below_alloc | apply pw_below_drewN | apply below_drew1) | exact HB.out)) HT.out); (case side1 => repeat (first | exact (Kd.R_reads' HO247.out).2.2 | (with_reducible refine Kd.C_alloc ?_ _) | (with_reducible refine Kd.C_drewN ?_ _) | (with_reducible refine Kd.C_drew ?_))); (case side2 => exact (Kd.R_reads' HO247.out).2.1); rintro e w13 ⟨v253, rfl, ho0, hb⟩; have n0_ := Aside0.mk (Kd.R_below (by (with_reducible repeat (first | apply Kd.R_alloc | apply Kd.R_drewN | apply Kd.R_drew)); exact HO247.out) hb); have n1_ := Aside0.mk (Kd.R_below (by (with_reducible repeat (first | apply Kd.R_alloc | apply Kd.R_drewN | apply Kd.R_drew)); exact HO250.out) hb); have n2_ := Aside0.mk (Kd.S_lower (Kd.S_new' ho0 (Kd.R_lt (by (with_reducible repeat (first | apply Kd.R_alloc | apply Kd.R_drewN | apply Kd.R_drew)); exact HO250.out))) (below_size (by repeat (first | (with_reducible first | exact HB.out | apply below_alloc | apply pw_below_drewN | apply below_drew1) | exact HB.out)))); have n3_ := Aside0.mk (below_step (by repeat (first | (with_reducible first | exact HB.out | apply below_alloc | apply pw_below_drewN | apply below_drew1) | exact HB.out)) hb); clear HO247; clear HO250; clear HB; have HO247 := n0_; have HO250 := n1_; have HO254 := n2_; have HB := n3_; clear n0_ n1_ n2_ n3_; (try clear hb); (try clear hb2); (try clear hk); (try clear hi); (try clear ho0); obtain ⟨Ao14, co14, eo14⟩ := Kd.R_slice HO250.out; subst eo14) | (go_at_call 29; (with_reducible refine (wetting_Close.calls t244 _ _ t245 _ _ t248 t255 t256 t257 _ ?side1 ?side2 ?side3 ?side4 A7.out ?sideT).mono ?_); (case sideT => exact tab_of (by repeat (first | (with_reducible first | exact HB.out | apply below_alloc | apply pw_below_drewN | apply below_drew1) | exact HB.out)) HT.out); (case side1 => repeat (first | exact (Kd.R_reads' HO247.out).2.2 | (with_reducible refine Kd.C_alloc ?_ _) | (with_reducible refine Kd.C_drewN ?_ _) | (with_reducible refine Kd.C_drew ?_))); (case side2 => exact (Kd.R_reads' HO247.out).2.1); (case side3 => repeat (first | exact (Kd.R_reads' HO250.out).2.2 | (with_reducible refine Kd.C_alloc ?_ _) | (with_reducible refine Kd.C_drewN ?_ _) | (with_reducible refine Kd.C_drew ?_))); (case side4 => exact (Kd.R_reads' HO250.out).2.1); rintro e w15 ⟨v258, rfl, ho0, hb⟩; have n0_ := Aside0.mk (Kd.R_below (by (with_reducible repeat (first | apply Kd.R_alloc | apply Kd.R_drewN | apply Kd.R_drew)); exact HO247.out) hb); have n1_ := Aside0.mk (Kd.R_elder' (by (with_reducible repeat (first | apply Kd.R_alloc | apply Kd.R_drewN | apply Kd.R_drew)); exact HO250.out) (Kd.R_base ho0) hb); have n2_ := Aside0.mk (Kd.S_elder' (by (with_reducible repeat (first | apply Kd.S_alloc | apply Kd.S_drewN | apply Kd.S_drew)); exact HO254.out) (Kd.R_base ho0) hb); have n3_ := Aside0.mk (Kd.R_lower (Kd.R_new' ho0 (Kd.R_lt (by (with_reducible repeat (first | apply Kd.R_alloc | apply Kd.R_drewN | apply Kd.R_drew)); exact HO250.out))) (below_size (by repeat (first | (with_reducible first | exact HB.out | apply below_alloc | apply pw_below_drewN | apply below_drew1) | exact HB.out)))); have n4_ := Aside0.mk (below_step (by repeat (first | (with_reducible first | exact HB.out | apply below_alloc | apply pw_below_drewN | apply below_drew1) | exact HB.out)) hb); clear HO247; clear HO250; clear HO254; clear HB; have HO247 := n0_; have HO250 := n1_; have HO254 := n2_; have HO259 := n3_; have HB := n4_; clear n0_ n1_ n2_ n3_ n4_; (try clear hb); (try clear hb2); (try clear hk); (try clear hi); (try clear ho0)) | (go_at_call 18; (with_reducible refine (wetting_Least.calls t244 _ _ t245 t260 t261 _ ?side1 ?side2 A8.out ?sideT).mono ?_); (case sideT => exact tab_of (by repeat (first | (with_reducible first | exact HB.out | apply below_alloc | apply pw_below_drewN | apply below_drew1) | exact HB.out)) HT.out); (case side1 => repeat (first | exact (Kd.R_reads' HO247.out).2.2 | (with_reducible refine Kd.C_alloc ?_ _) | (with_reducible refine Kd.C_drewN ?_ _) | (with_reducible refine Kd.C_drew ?_))); (case side2 => exact (Kd.R_reads' HO247.out).2.1); rintro e w16 ⟨v262, rfl, ho0, hb⟩; have n0_ := Aside0.mk (Kd.R_below (by (with_reducible repeat (first | apply Kd.R_alloc | apply Kd.R_drewN | apply Kd.R_drew)); exact HO247.out) hb); have n1_ := Aside0.mk (Kd.R_elder' (by (with_reducible repeat (first | apply Kd.R_alloc | apply Kd.R_drewN | apply Kd.R_drew)); exact HO250.out) (Kd.R_base ho0) hb); have n2_ := Aside0.mk (Kd.S_elder' (by (with_reducible repeat (first | apply Kd.S_alloc | apply Kd.S_drewN | apply Kd.S_drew)); exact HO254.out) (Kd.R_base ho0) hb); have n3_ := Aside0.mk (Kd.R_elder' (by (with_reducible repeat (first | apply Kd.R_alloc | apply Kd.R_drewN | apply Kd.R_drew)); exact HO259.out) (Kd.R_base ho0) hb); have n4_ := Aside0.mk (Kd.R_lower (Kd.R_new' (Kd.R_new' ho0 (Kd.R_lt (by (with_reducible repeat (first | apply Kd.R_alloc | apply Kd.R_drewN | apply Kd.R_drew)); exact HO250.out))) (Kd.R_lt (by (with_reducible repeat (first | apply Kd.R_alloc | apply Kd.R_drewN | apply Kd.R_drew)); exact HO259.out))) (below_size (by repeat (first | (with_reducible first | exact HB.out | apply below_alloc | apply pw_below_drewN | apply below_drew1) | exact HB.out)))); have n5_ := Aside0.mk (below_step (by repeat (first | (with_reducible first | exact HB.out | apply below_alloc | apply pw_below_drewN | apply below_drew1) | exact HB.out)) hb); clear HO247; clear HO250; clear HO254; clear HO259; clear HB; have HO247 := n0_; have HO250 := n1_; have HO254 := n2_; have HO259 := n3_; have HO263 := n4_; have HB := n5_; clear n0_ n1_ n2_ n3_ n4_ n5_; (try clear hb); (try clear hb2); (try clear hk); (try clear hi); (try clear ho0))))
 (try simp only [Act.put, List.setIfInBounds_toArray, List.set_cons_zero, List.set_cons_succ])
 go_cut [77] (fun v77 wc => ∃ (kq : Nat) (x77_8 : Bool), v77 = .bool x77_8 ∧ Aside0 (numnahlaw06_WettingHits.j0 kq t244 t245 t248 t251 t255 t260 x77_8 = some r) ∧ Aside0 (kq ≤ k) ∧ Aside0 (Kd.R k48 48 wc w.heap.size (fun _ => True) (.slice Ao12 t245.length co12) t245) ∧ Aside0 (Kd.R (Kd.int .i64) 3 wc w.heap.size (fun k_ => some k_ ≠ (v258 : Value).ownBlock ∧ some k_ ≠ (v262 : Value).ownBlock) (.slice Ao14 t248.length co14) t248) ∧ Aside0 (Kd.S (Kd.slice 3 (Kd.int .i64)) 24 wc w.heap.size (fun k_ => some k_ ≠ ((.slice Ao14 t248.length co14) : Value).ownBlock ∧ some k_ ≠ (v258 : Value).ownBlock ∧ some k_ ≠ (v262 : Value).ownBlock) v253 t251) ∧ Aside0 (Kd.R (Kd.int .i64) 3 wc w.heap.size (fun k_ => some k_ ≠ ((.slice Ao14 t248.length co14) : Value).ownBlock ∧ some k_ ≠ (v262 : Value).ownBlock) v258 t255) ∧ Aside0 (Kd.R (Kd.int .i64) 3 wc w.heap.size (fun k_ => some k_ ≠ ((.slice Ao14 t248.length co14) : Value).ownBlock ∧ some k_ ≠ (v258 : Value).ownBlock) v262 t260) ∧ Aside0 (Below w.heap.size w wc))
 case first =>
  have H := HC9.out
  clear HC9
  by_cases c17 : t252 = 0
  ·rw [if_pos c17] at H
   have c17b0 : (t252 == 0) = true := beq_iff_eq.mpr c17
   have c17b1 : (t252 != 0) = false := bne_eq_false_iff_eq.mpr c17
   clear c17
   (first | rw [c17b0] | (simp only [i64_w, i32_w]; rw [c17b0]) | skip)
   by_cases c18 : t257 = 0
   ·rw [if_pos c18] at H
    have c18b0 : (t257 == 0) = true := beq_iff_eq.mpr c18
    have c18b1 : (t257 != 0) = false := bne_eq_false_iff_eq.mpr c18
    clear c18
    by_cases c19 : t261 = 0
    ·rw [if_pos c19] at H
     have c19b0 : (t261 == 0) = true := beq_iff_eq.mpr c19
     have c19b1 : (t261 != 0) = false := bne_eq_false_iff_eq.mpr c19
     clear c19
     by_cases c20 : (t251.length : Int) < 1
     ·rw [if_pos c20] at H
      have c20b0 : decide ((t251.length : Int) < 1) = true := decide_eq_true c20
      have c20b1 : decide (t251.length < 1) = true := decide_eq_true (by omega)
      clear c20
      have H' := Aside0.mk H
      clear H
      obtain ⟨Ao21, co21, eo21⟩ := Kd.S_slice HO254.out
      subst eo21
      go_wp2
      repeat (go_quiet (fail); try go_wp2)
      go_meet
      case rel => exact ⟨_, (true), (by first | rfl | (simp; done) | (simp [*]; done)), H', ⟨by first | omega | exact Nat.le_refl _⟩, ⟨by (with_reducible repeat (first | apply Kd.R_alloc | apply Kd.R_drewN | apply Kd.R_drew)); exact HO247.out⟩, ⟨by (with_reducible repeat (first | apply Kd.R_alloc | apply Kd.R_drewN | apply Kd.R_drew)); exact Kd.R_mono HO250.out (fun _ hk => ⟨hk.1.2, hk.2⟩)⟩, ⟨by (with_reducible repeat (first | apply Kd.S_alloc | apply Kd.S_drewN | apply Kd.S_drew)); exact Kd.S_mono HO254.out (fun _ hk => ⟨hk.1.1.2, ⟨hk.1.2, hk.2⟩⟩)⟩, ⟨by (with_reducible repeat (first | apply Kd.R_alloc | apply Kd.R_drewN | apply Kd.R_drew)); exact Kd.R_mono HO259.out (fun _ hk => ⟨hk.1.2, hk.2⟩)⟩, ⟨by (with_reducible repeat (first | apply Kd.R_alloc | apply Kd.R_drewN | apply Kd.R_drew)); exact Kd.R_mono HO263.out (fun _ hk => ⟨hk.1.2, hk.2⟩)⟩, ⟨by repeat (first | (with_reducible first | exact HB.out | apply below_alloc | apply pw_below_drewN | apply below_drew1) | exact HB.out)⟩⟩
     ·rw [if_neg c20] at H
      have c20b0 : decide ((t251.length : Int) < 1) = false := decide_eq_false c20
      have c20b1 : decide (t251.length < 1) = false := decide_eq_false (by omega)
      clear c20
      replace H := Option.bind_eq_some_iff.mp H
      obtain ⟨t264, A220, H⟩ := H
      replace H : (if t264 = true then ((numnahlaw06_within.f k t244 t260).bind fun t265 => (numnahlaw06_WettingHits.j0 k t244 t245 t248 t251 t255 t260 (!t265))) else (numnahlaw06_WettingHits.j0 k t244 t245 t248 t251 t255 t260 true)) = some r := H
      have A22 := Aside0.mk A220
      clear A220
      by_cases c23 : t264 = true
      ·subst c23
       have H1 : ((numnahlaw06_within.f k t244 t260).bind fun t265 => (numnahlaw06_WettingHits.j0 k t244 t245 t248 t251 t255 t260 (!t265))) = some r := by rw [if_pos rfl] at H; exact H
       clear H
       have H := H1
       clear H1
       replace H := Option.bind_eq_some_iff.mp H
       obtain ⟨t265, A240, H⟩ := H
       replace H : (numnahlaw06_WettingHits.j0 k t244 t245 t248 t251 t255 t260 (!t265)) = some r := H
       have A24 := Aside0.mk A240
       clear A240
       have H' := Aside0.mk H
       clear H
       obtain ⟨Ao25, co25, eo25⟩ := Kd.S_slice HO254.out
       subst eo25
       obtain ⟨Ao26, co26, eo26⟩ := Kd.R_slice HO259.out
       subst eo26
       go_wp2_with (first | (go_at_call 30; (with_reducible refine (numnahlaw06_within.calls k t244 _ _ t255 true _ ?side1 ?side2 A22.out).mono ?_); (case side1 => repeat (first | exact (Kd.R_reads' HO259.out).2.2 | (with_reducible refine Kd.C_alloc ?_ _) | (with_reducible refine Kd.C_drewN ?_ _) | (with_reducible refine Kd.C_drew ?_))); (case side2 => exact (Kd.R_reads' HO259.out).2.1); rintro e w' ⟨rfl, ⟨nd, rfl⟩⟩; (try first | exact ⟨rfl, _, World.drewN_drewN _ _ _⟩ | exact ⟨rfl, _, Eq.trans (World.drewN_drewN _ _ _) (congrArg (World.drewN _) (Nat.add_assoc _ _ _))⟩); obtain ⟨Ao27, co27, eo27⟩ := Kd.R_slice HO263.out; subst eo27) | (go_at_call 30; (with_reducible refine (numnahlaw06_within.calls k t244 _ _ t260 t265 _ ?side1 ?side2 A24.out).mono ?_); (case side1 => repeat (first | exact (Kd.R_reads' HO263.out).2.2 | (with_reducible refine Kd.C_alloc ?_ _) | (with_reducible refine Kd.C_drewN ?_ _) | (with_reducible refine Kd.C_drew ?_))); (case side2 => exact (Kd.R_reads' HO263.out).2.1); rintro e w' ⟨rfl, ⟨nd, rfl⟩⟩; (try first | exact ⟨rfl, _, World.drewN_drewN _ _ _⟩ | exact ⟨rfl, _, Eq.trans (World.drewN_drewN _ _ _) (congrArg (World.drewN _) (Nat.add_assoc _ _ _))⟩)))
       repeat (go_quiet (first | (go_at_call 30; (with_reducible refine (numnahlaw06_within.calls k t244 _ _ t255 true _ ?side1 ?side2 A22.out).mono ?_); (case side1 => repeat (first | exact (Kd.R_reads' HO259.out).2.2 | (with_reducible refine Kd.C_alloc ?_ _) | (with_reducible refine Kd.C_drewN ?_ _) | (with_reducible refine Kd.C_drew ?_))); (case side2 => exact (Kd.R_reads' HO259.out).2.1); rintro e w' ⟨rfl, ⟨nd, rfl⟩⟩; (try first | exact ⟨rfl, _, World.drewN_drewN _ _ _⟩ | exact ⟨rfl, _, Eq.trans (World.drewN_drewN _ _ _) (congrArg (World.drewN _) (Nat.add_assoc _ _ _))⟩); obtain ⟨Ao27, co27, eo27⟩ := Kd.R_slice HO263.out; subst eo27) | (go_at_call 30; (with_reducible refine (numnahlaw06_within.calls k t244 _ _ t260 t265 _ ?side1 ?side2 A24.out).mono ?_); (case side1 => repeat (first | exact (Kd.R_reads' HO263.out).2.2 | (with_reducible refine Kd.C_alloc ?_ _) | (with_reducible refine Kd.C_drewN ?_ _) | (with_reducible refine Kd.C_drew ?_))); (case side2 => exact (Kd.R_reads' HO263.out).2.1); rintro e w' ⟨rfl, ⟨nd, rfl⟩⟩; (try first | exact ⟨rfl, _, World.drewN_drewN _ _ _⟩ | exact ⟨rfl, _, Eq.trans (World.drewN_drewN _ _ _) (congrArg (World.drewN _) (Nat.add_assoc _ _ _))⟩))); try go_wp2_with (first | (go_at_call 30; (with_reducible refine (numnahlaw06_within.calls k t244 _ _ t255 true _ ?side1 ?side2 A22.out).mono ?_); (case side1 => repeat (first | exact (Kd.R_reads' HO259.out).2.2 | (with_reducible refine Kd.C_alloc ?_ _) | (with_reducible refine Kd.C_drewN ?_ _) | (with_reducible refine Kd.C_drew ?_))); (case side2 => exact (Kd.R_reads' HO259.out).2.1); rintro e w' ⟨rfl, ⟨nd, rfl⟩⟩; (try first | exact ⟨rfl, _, World.drewN_drewN _ _ _⟩ | exact ⟨rfl, _, Eq.trans (World.drewN_drewN _ _ _) (congrArg (World.drewN _) (Nat.add_assoc _ _ _))⟩); obtain ⟨Ao27, co27, eo27⟩ := Kd.R_slice HO263.out; subst eo27) | (go_at_call 30; (with_reducible refine (numnahlaw06_within.calls k t244 _ _ t260 t265 _ ?side1 ?side2 A24.out).mono ?_); (case side1 => repeat (first | exact (Kd.R_reads' HO263.out).2.2 | (with_reducible refine Kd.C_alloc ?_ _) | (with_reducible refine Kd.C_drewN ?_ _) | (with_reducible refine Kd.C_drew ?_))); (case side2 => exact (Kd.R_reads' HO263.out).2.1); rintro e w' ⟨rfl, ⟨nd, rfl⟩⟩; (try first | exact ⟨rfl, _, World.drewN_drewN _ _ _⟩ | exact ⟨rfl, _, Eq.trans (World.drewN_drewN _ _ _) (congrArg (World.drewN _) (Nat.add_assoc _ _ _))⟩))))
       go_meet
       case rel => exact ⟨_, (!t265), (by first | rfl | (simp; done) | (simp [*]; done)), H', ⟨by first | omega | exact Nat.le_refl _⟩, ⟨by (with_reducible repeat (first | apply Kd.R_alloc | apply Kd.R_drewN | apply Kd.R_drew)); exact HO247.out⟩, ⟨by (with_reducible repeat (first | apply Kd.R_alloc | apply Kd.R_drewN | apply Kd.R_drew)); exact Kd.R_mono HO250.out (fun _ hk => ⟨hk.1.2, hk.2⟩)⟩, ⟨by (with_reducible repeat (first | apply Kd.S_alloc | apply Kd.S_drewN | apply Kd.S_drew)); exact Kd.S_mono HO254.out (fun _ hk => ⟨hk.1.1.2, ⟨hk.1.2, hk.2⟩⟩)⟩, ⟨by (with_reducible repeat (first | apply Kd.R_alloc | apply Kd.R_drewN | apply Kd.R_drew)); exact Kd.R_mono HO259.out (fun _ hk => ⟨hk.1.2, hk.2⟩)⟩, ⟨by (with_reducible repeat (first | apply Kd.R_alloc | apply Kd.R_drewN | apply Kd.R_drew)); exact Kd.R_mono HO263.out (fun _ hk => ⟨hk.1.2, hk.2⟩)⟩, ⟨by repeat (first | (with_reducible first | exact HB.out | apply below_alloc | apply pw_below_drewN | apply below_drew1) | exact HB.out)⟩⟩
      ·replace c23 := Bool.eq_false_iff.mpr c23
       subst c23
       have H1 : (numnahlaw06_WettingHits.j0 k t244 t245 t248 t251 t255 t260 true) = some r := by rw [if_neg (show ¬ (false = true) by decide)] at H; exact H
       clear H
       have H := H1
       clear H1
       have H' := Aside0.mk H
       clear H
       obtain ⟨Ao28, co28, eo28⟩ := Kd.S_slice HO254.out
       subst eo28
       obtain ⟨Ao29, co29, eo29⟩ := Kd.R_slice HO259.out
       subst eo29
       go_wp2_with (first | (go_at_call 30; (with_reducible refine (numnahlaw06_within.calls k t244 _ _ t255 false _ ?side1 ?side2 A22.out).mono ?_); (case side1 => repeat (first | exact (Kd.R_reads' HO259.out).2.2 | (with_reducible refine Kd.C_alloc ?_ _) | (with_reducible refine Kd.C_drewN ?_ _) | (with_reducible refine Kd.C_drew ?_))); (case side2 => exact (Kd.R_reads' HO259.out).2.1); rintro e w' ⟨rfl, ⟨nd, rfl⟩⟩; (try first | exact ⟨rfl, _, World.drewN_drewN _ _ _⟩ | exact ⟨rfl, _, Eq.trans (World.drewN_drewN _ _ _) (congrArg (World.drewN _) (Nat.add_assoc _ _ _))⟩)))
       repeat (go_quiet (first | (go_at_call 30; (with_reducible refine (numnahlaw06_within.calls k t244 _ _ t255 false _ ?side1 ?side2 A22.out).mono ?_); (case side1 => repeat (first | exact (Kd.R_reads' HO259.out).2.2 | (with_reducible refine Kd.C_alloc ?_ _) | (with_reducible refine Kd.C_drewN ?_ _) | (with_reducible refine Kd.C_drew ?_))); (case side2 => exact (Kd.R_reads' HO259.out).2.1); rintro e w' ⟨rfl, ⟨nd, rfl⟩⟩; (try first | exact ⟨rfl, _, World.drewN_drewN _ _ _⟩ | exact ⟨rfl, _, Eq.trans (World.drewN_drewN _ _ _) (congrArg (World.drewN _) (Nat.add_assoc _ _ _))⟩))); try go_wp2_with (first | (go_at_call 30; (with_reducible refine (numnahlaw06_within.calls k t244 _ _ t255 false _ ?side1 ?side2 A22.out).mono ?_); (case side1 => repeat (first | exact (Kd.R_reads' HO259.out).2.2 | (with_reducible refine Kd.C_alloc ?_ _) | (with_reducible refine Kd.C_drewN ?_ _) | (with_reducible refine Kd.C_drew ?_))); (case side2 => exact (Kd.R_reads' HO259.out).2.1); rintro e w' ⟨rfl, ⟨nd, rfl⟩⟩; (try first | exact ⟨rfl, _, World.drewN_drewN _ _ _⟩ | exact ⟨rfl, _, Eq.trans (World.drewN_drewN _ _ _) (congrArg (World.drewN _) (Nat.add_assoc _ _ _))⟩))))
       go_meet
       case rel => exact ⟨_, (true), (by first | rfl | (simp; done) | (simp [*]; done)), H', ⟨by first | omega | exact Nat.le_refl _⟩, ⟨by (with_reducible repeat (first | apply Kd.R_alloc | apply Kd.R_drewN | apply Kd.R_drew)); exact HO247.out⟩, ⟨by (with_reducible repeat (first | apply Kd.R_alloc | apply Kd.R_drewN | apply Kd.R_drew)); exact Kd.R_mono HO250.out (fun _ hk => ⟨hk.1.2, hk.2⟩)⟩, ⟨by (with_reducible repeat (first | apply Kd.S_alloc | apply Kd.S_drewN | apply Kd.S_drew)); exact Kd.S_mono HO254.out (fun _ hk => ⟨hk.1.1.2, ⟨hk.1.2, hk.2⟩⟩)⟩, ⟨by (with_reducible repeat (first | apply Kd.R_alloc | apply Kd.R_drewN | apply Kd.R_drew)); exact Kd.R_mono HO259.out (fun _ hk => ⟨hk.1.2, hk.2⟩)⟩, ⟨by (with_reducible repeat (first | apply Kd.R_alloc | apply Kd.R_drewN | apply Kd.R_drew)); exact Kd.R_mono HO263.out (fun _ hk => ⟨hk.1.2, hk.2⟩)⟩, ⟨by repeat (first | (with_reducible first | exact HB.out | apply below_alloc | apply pw_below_drewN | apply below_drew1) | exact HB.out)⟩⟩
    ·rw [if_neg c19] at H
     have c19b0 : (t261 == 0) = false := beq_eq_false_iff_ne.mpr c19
     have c19b1 : (t261 != 0) = true := bne_iff_ne.mpr c19
     have H' := Aside0.mk H
     clear H
     go_wp2
     repeat (go_quiet (fail); try go_wp2)
     go_meet
     case rel => exact ⟨_, (true), (by first | rfl | (simp; done) | (simp [*]; done)), H', ⟨by first | omega | exact Nat.le_refl _⟩, ⟨by (with_reducible repeat (first | apply Kd.R_alloc | apply Kd.R_drewN | apply Kd.R_drew)); exact HO247.out⟩, ⟨by (with_reducible repeat (first | apply Kd.R_alloc | apply Kd.R_drewN | apply Kd.R_drew)); exact Kd.R_mono HO250.out (fun _ hk => ⟨hk.1.2, hk.2⟩)⟩, ⟨by (with_reducible repeat (first | apply Kd.S_alloc | apply Kd.S_drewN | apply Kd.S_drew)); exact Kd.S_mono HO254.out (fun _ hk => ⟨hk.1.1.2, ⟨hk.1.2, hk.2⟩⟩)⟩, ⟨by (with_reducible repeat (first | apply Kd.R_alloc | apply Kd.R_drewN | apply Kd.R_drew)); exact Kd.R_mono HO259.out (fun _ hk => ⟨hk.1.2, hk.2⟩)⟩, ⟨by (with_reducible repeat (first | apply Kd.R_alloc | apply Kd.R_drewN | apply Kd.R_drew)); exact Kd.R_mono HO263.out (fun _ hk => ⟨hk.1.2, hk.2⟩)⟩, ⟨by repeat (first | (with_reducible first | exact HB.out | apply below_alloc | apply pw_below_drewN | apply below_drew1) | exact HB.out)⟩⟩
   ·rw [if_neg c18] at H
    have c18b0 : (t257 == 0) = false := beq_eq_false_iff_ne.mpr c18
    have c18b1 : (t257 != 0) = true := bne_iff_ne.mpr c18
    have H' := Aside0.mk H
    clear H
    go_wp2
    repeat (go_quiet (fail); try go_wp2)
    go_meet
    case rel => exact ⟨_, (true), (by first | rfl | (simp; done) | (simp [*]; done)), H', ⟨by first | omega | exact Nat.le_refl _⟩, ⟨by (with_reducible repeat (first | apply Kd.R_alloc | apply Kd.R_drewN | apply Kd.R_drew)); exact HO247.out⟩, ⟨by (with_reducible repeat (first | apply Kd.R_alloc | apply Kd.R_drewN | apply Kd.R_drew)); exact Kd.R_mono HO250.out (fun _ hk => ⟨hk.1.2, hk.2⟩)⟩, ⟨by (with_reducible repeat (first | apply Kd.S_alloc | apply Kd.S_drewN | apply Kd.S_drew)); exact Kd.S_mono HO254.out (fun _ hk => ⟨hk.1.1.2, ⟨hk.1.2, hk.2⟩⟩)⟩, ⟨by (with_reducible repeat (first | apply Kd.R_alloc | apply Kd.R_drewN | apply Kd.R_drew)); exact Kd.R_mono HO259.out (fun _ hk => ⟨hk.1.2, hk.2⟩)⟩, ⟨by (with_reducible repeat (first | apply Kd.R_alloc | apply Kd.R_drewN | apply Kd.R_drew)); exact Kd.R_mono HO263.out (fun _ hk => ⟨hk.1.2, hk.2⟩)⟩, ⟨by repeat (first | (with_reducible first | exact HB.out | apply below_alloc | apply pw_below_drewN | apply below_drew1) | exact HB.out)⟩⟩
  ·rw [if_neg c17] at H
   have c17b0 : (t252 == 0) = false := beq_eq_false_iff_ne.mpr c17
   have c17b1 : (t252 != 0) = true := bne_iff_ne.mpr c17
   (first | rw [c17b0] | (simp only [i64_w, i32_w]; rw [c17b0]) | skip)
   have H' := Aside0.mk H
   clear H
   go_wp2
   repeat (go_quiet (fail); try go_wp2)
   go_meet
   case rel => exact ⟨_, (true), (by first | rfl | (simp; done) | (simp [*]; done)), H', ⟨by first | omega | exact Nat.le_refl _⟩, ⟨by (with_reducible repeat (first | apply Kd.R_alloc | apply Kd.R_drewN | apply Kd.R_drew)); exact HO247.out⟩, ⟨by (with_reducible repeat (first | apply Kd.R_alloc | apply Kd.R_drewN | apply Kd.R_drew)); exact Kd.R_mono HO250.out (fun _ hk => ⟨hk.1.2, hk.2⟩)⟩, ⟨by (with_reducible repeat (first | apply Kd.S_alloc | apply Kd.S_drewN | apply Kd.S_drew)); exact Kd.S_mono HO254.out (fun _ hk => ⟨hk.1.1.2, ⟨hk.1.2, hk.2⟩⟩)⟩, ⟨by (with_reducible repeat (first | apply Kd.R_alloc | apply Kd.R_drewN | apply Kd.R_drew)); exact Kd.R_mono HO259.out (fun _ hk => ⟨hk.1.2, hk.2⟩)⟩, ⟨by (with_reducible repeat (first | apply Kd.R_alloc | apply Kd.R_drewN | apply Kd.R_drew)); exact Kd.R_mono HO263.out (fun _ hk => ⟨hk.1.2, hk.2⟩)⟩, ⟨by repeat (first | (with_reducible first | exact HB.out | apply below_alloc | apply pw_below_drewN | apply below_drew1) | exact HB.out)⟩⟩
 case rest =>
  clear HC9
  try clear c1
  try clear c2
  try clear p2
  try clear c4
  try clear c17
  try clear c17b0
  try clear c17b1
  try clear c18
  try clear c18b0
  try clear c18b1
  try clear c19
  try clear c19b0
  try clear c19b1
  try clear c20
  try clear c20b0
  try clear c20b1
  try clear c23
  obtain ⟨kq, x77_8, rfl, HA, HJ8, HO_7, HO_8, HO_9, HO_11, HO_14, HB⟩ := hcut
  cases kq with
  | zero => exact absurd HA.out (by simp [numnahlaw06_WettingHits.j0])
  | succ kj8 =>
   have H := HA.out
   clear HA
   simp only [numnahlaw06_WettingHits.j0] at H
   by_cases c30 : x77_8 = true
   ·subst c30
    have H1 : (some false) = some r := by rw [if_pos rfl] at H; exact H
    clear H
    have H := H1
    clear H1
    obtain rfl := Option.some.inj H
    go_wp2
    repeat (go_quiet (fail); try go_wp2)
    go_ret
    exact ⟨by first | rfl | (simp [errW_none, errW_some] <;> rfl) | (simp [*, errW_none, errW_some] <;> rfl), by repeat (first | (with_reducible first | exact HB.out | apply below_alloc | apply pw_below_drewN | apply below_drew1) | exact HB.out)⟩
   ·replace c30 := Bool.eq_false_iff.mpr c30
    subst c30
    have H1 : (numnahlaw06_WettingHits.l0 kj8 t244 t245 t248 t251 t255 t260 true true 0) = some r := by rw [if_neg (show ¬ (false = true) by decide)] at H; exact H
    clear H
    have H := H1
    clear H1
    have H' := Aside0.mk H
    clear H
    go_wp2
    repeat (go_quiet (fail); try go_wp2)
    go_loopg [16, 17, 18] kj8 (fun kq v16 v17 v18 w' => ∃ (x16_2 : Bool) (x17_2 : Bool) (x18_2 : Int), v16 = .bool x16_2 ∧ v17 = .bool x17_2 ∧ v18 = .int .i64 x18_2 ∧ Aside0 (numnahlaw06_WettingHits.l0 kq t244 t245 t248 t251 t255 t260 x16_2 x17_2 x18_2 = some r) ∧ Aside0 (kq ≤ kj8) ∧ Aside0 (Kd.R k48 48 w' w.heap.size (fun _ => True) (.slice Ao12 t245.length co12) t245) ∧ Aside0 (Kd.R (Kd.int .i64) 3 w' w.heap.size (fun k_ => some k_ ≠ (v258 : Value).ownBlock ∧ some k_ ≠ (v262 : Value).ownBlock) (.slice Ao14 t248.length co14) t248) ∧ Aside0 (Kd.S (Kd.slice 3 (Kd.int .i64)) 24 w' w.heap.size (fun k_ => some k_ ≠ ((.slice Ao14 t248.length co14) : Value).ownBlock ∧ some k_ ≠ (v258 : Value).ownBlock ∧ some k_ ≠ (v262 : Value).ownBlock) v253 t251) ∧ Aside0 (Kd.R (Kd.int .i64) 3 w' w.heap.size (fun k_ => some k_ ≠ ((.slice Ao14 t248.length co14) : Value).ownBlock ∧ some k_ ≠ (v262 : Value).ownBlock) v258 t255) ∧ Aside0 (Kd.R (Kd.int .i64) 3 w' w.heap.size (fun k_ => some k_ ≠ ((.slice Ao14 t248.length co14) : Value).ownBlock ∧ some k_ ≠ (v258 : Value).ownBlock) v262 t260) ∧ Aside0 (Below w.heap.size w w'))
    case atStart => exact ⟨(true), (true), (0), (by first | rfl | (simp; done) | (simp [*]; done)), (by first | rfl | (simp; done) | (simp [*]; done)), (by first | rfl | (simp; done) | (simp [*]; done)), H', ⟨Nat.le_refl _⟩, ⟨by (with_reducible repeat (first | apply Kd.R_alloc | apply Kd.R_drewN | apply Kd.R_drew)); exact HO_7.out⟩, ⟨by (with_reducible repeat (first | apply Kd.R_alloc | apply Kd.R_drewN | apply Kd.R_drew)); exact HO_8.out⟩, ⟨by (with_reducible repeat (first | apply Kd.S_alloc | apply Kd.S_drewN | apply Kd.S_drew)); exact HO_9.out⟩, ⟨by (with_reducible repeat (first | apply Kd.R_alloc | apply Kd.R_drewN | apply Kd.R_drew)); exact HO_11.out⟩, ⟨by (with_reducible repeat (first | apply Kd.R_alloc | apply Kd.R_drewN | apply Kd.R_drew)); exact HO_14.out⟩, ⟨by repeat (first | (with_reducible first | exact HB.out | apply below_alloc | apply pw_below_drewN | apply below_drew1) | exact HB.out)⟩⟩
    case round =>
     clear H'
     try clear c1
     try clear c2
     try clear p2
     try clear c3
     try clear c4
     try clear c17
     try clear c17b0
     try clear c17b1
     try clear c18
     try clear c18b0
     try clear c18b1
     try clear c19
     try clear c19b0
     try clear c19b1
     try clear c20
     try clear c20b0
     try clear c20b1
     try clear c23
     try clear c30
     try clear p2
     obtain ⟨x16_2, x17_2, x18_2, rfl, rfl, rfl, HA, HK2, HO_7, HO_8, HO_9, HO_11, HO_14, HB⟩ := hrel
     cases gk with
     | zero => exact absurd HA.out (by simp [numnahlaw06_WettingHits.l0])
     | succ k2 =>
      have H := HA.out
      clear HA
      simp only [numnahlaw06_WettingHits.l0] at H
      by_cases c31 : x18_2 < (t251.length : Int)
      ·rw [if_pos c31] at H
       have c31b0 : decide (x18_2 < (t251.length : Int)) = true := decide_eq_true c31
       clear c31
       have HC32 := Aside0.mk H
       clear H
       obtain ⟨Ao33, co33, eo33⟩ := Kd.S_slice HO_9.out
       subst eo33
       go_upto_region 12 with (fail)
       repeat (go_quiet (fail); go_upto_region 12 with (fail))
       go_cut [98] (fun v98 wc => ∃ (kq : Nat) (x98_31 : Bool), v98 = .bool x98_31 ∧ Aside0 (numnahlaw06_WettingHits.j2 kq t244 t245 t248 t251 t255 t260 x16_2 x17_2 x18_2 x98_31 = some r) ∧ Aside0 (kq ≤ k2) ∧ Aside0 (Kd.R k48 48 wc w.heap.size (fun _ => True) (.slice Ao12 t245.length co12) t245) ∧ Aside0 (Kd.R (Kd.int .i64) 3 wc w.heap.size (fun k_ => some k_ ≠ (v258 : Value).ownBlock ∧ some k_ ≠ (v262 : Value).ownBlock) (.slice Ao14 t248.length co14) t248) ∧ Aside0 (Kd.S (Kd.slice 3 (Kd.int .i64)) 24 wc w.heap.size (fun k_ => some k_ ≠ ((.slice Ao14 t248.length co14) : Value).ownBlock ∧ some k_ ≠ (v258 : Value).ownBlock ∧ some k_ ≠ (v262 : Value).ownBlock) (.slice Ao33 t251.length co33) t251) ∧ Aside0 (Kd.R (Kd.int .i64) 3 wc w.heap.size (fun k_ => some k_ ≠ ((.slice Ao14 t248.length co14) : Value).ownBlock ∧ some k_ ≠ (v262 : Value).ownBlock) v258 t255) ∧ Aside0 (Kd.R (Kd.int .i64) 3 wc w.heap.size (fun k_ => some k_ ≠ ((.slice Ao14 t248.length co14) : Value).ownBlock ∧ some k_ ≠ (v258 : Value).ownBlock) v262 t260) ∧ Aside0 (Below w.heap.size w wc))
       case first =>
        have H := HC32.out
        clear HC32
        by_cases c34 : 0 ≤ x18_2
        ·rw [if_pos c34] at H
         have c34b0 : decide (0 ≤ x18_2) = true := decide_eq_true c34
         clear c34
         (first | rw [c34b0] | (simp only [i64_w, i32_w]; rw [c34b0]) | skip)
         replace H := Option.bind_eq_some_iff.mp H
         obtain ⟨t269, A350, H⟩ := H
         replace H : (if t269 = true then (numnahlaw06_WettingHits.j2 k2 t244 t245 t248 t251 t255 t260 x16_2 x17_2 x18_2 (decide (((rd_L3 t251 x18_2).length : Int) < 1))) else (numnahlaw06_WettingHits.j2 k2 t244 t245 t248 t251 t255 t260 x16_2 x17_2 x18_2 true)) = some r := H
         have A35 := Aside0.mk A350
         clear A350
         by_cases c36 : t269 = true
         ·subst c36
          have H1 : (numnahlaw06_WettingHits.j2 k2 t244 t245 t248 t251 t255 t260 x16_2 x17_2 x18_2 (decide (((rd_L3 t251 x18_2).length : Int) < 1))) = some r := by rw [if_pos rfl] at H; exact H
          clear H
          have H := H1
          clear H1
          have H' := Aside0.mk H
          clear H
          have p268 : 0 ≤ (x18_2 : Int) := of_decide_eq_true (by first | (with_reducible assumption) | assumption)
          have q268 : x18_2 < (t251.length : Int) := of_decide_eq_true (by first | (with_reducible assumption) | assumption)
          obtain ⟨ad268, A268_0, c268_0, e268, hx268_0, hl268_0, hi268_0⟩ := at_L3 (Kd.S_reads' HO_9.out).2.2 x18_2 p268 q268
          cases e268
          obtain ⟨ce268, hce268, hMe268, hcc268⟩ := Kd.S_get HO_9.out [] x18_2 p268 (by first | exact q268 | exact of_decide_eq_true (by first | (with_reducible assumption) | assumption) | (have e_ := (Kd.S_reads' HO_9.out).1; omega))
          obtain ⟨ve268_0, rfl, ge268_0⟩ := hMe268
          have hv268_0 := hcc268 0 _ rfl
          rw [Nat.add_zero, show ((Kd.slice 3 (Kd.int .i64))).sz = 1 from rfl, Nat.mul_one] at hv268_0
          replace hv268_0 := Option.some.inj (hv268_0.symm.trans hx268_0)
          rw [hv268_0] at ge268_0
          have HL268_0 := Aside0.mk (show Kd.R (Kd.int .i64) 3 _ _ _ _ (rd_L3 t251 x18_2) from ge268_0)
          clear hv268_0 ge268_0
          clear hcc268 hce268
          have HR268_0 := Aside0.mk hi268_0
          have HC268_0 := Aside0.mk hl268_0
          clear hi268_0 hl268_0
          replace p268 := eq_true p268
          replace q268 := eq_true q268
          go_wp2_with (first | (go_at_call 30; (with_reducible refine (numnahlaw06_within.calls k2 t244 _ _ (rd_L3 t251 x18_2) true _ ?side1 ?side2 A35.out).mono ?_); (case side1 => repeat (first | exact (by repeat (first | (with_reducible exact HR268_0.out) | (with_reducible refine Kd.C_alloc ?_ _) | (with_reducible refine Kd.C_drewN ?_ _) | (with_reducible refine Kd.C_drew ?_) | exact HR268_0.out)) | (with_reducible refine Kd.C_alloc ?_ _) | (with_reducible refine Kd.C_drewN ?_ _) | (with_reducible refine Kd.C_drew ?_))); (case side2 => exact HC268_0.out); rintro e w' ⟨rfl, ⟨nd, rfl⟩⟩; (try first | exact ⟨rfl, _, World.drewN_drewN _ _ _⟩ | exact ⟨rfl, _, Eq.trans (World.drewN_drewN _ _ _) (congrArg (World.drewN _) (Nat.add_assoc _ _ _))⟩); have p270 : 0 ≤ (x18_2 : Int) := of_decide_eq_true (by first | (with_reducible assumption) | assumption); have q270 : x18_2 < (t251.length : Int) := of_decide_eq_true (by first | (with_reducible assumption) | assumption); obtain ⟨ad270, A270_0, c270_0, e270, hx270_0, hl270_0, hi270_0⟩ := at_L3 (Kd.S_reads' HO_9.out).2.2 x18_2 p270 q270; obtain rfl : ad268 = ad270 := (by injection e270); obtain ⟨ce270, hce270, hMe270, hcc270⟩ := Kd.S_get HO_9.out [] x18_2 p270 (by first | exact q270 | exact of_decide_eq_true (by first | (with_reducible assumption) | assumption) | (have e_ := (Kd.S_reads' HO_9.out).1; omega)); obtain ⟨ve270_0, rfl, ge270_0⟩ := hMe270; have hv270_0 := hcc270 0 _ rfl; rw [Nat.add_zero, show ((Kd.slice 3 (Kd.int .i64))).sz = 1 from rfl, Nat.mul_one] at hv270_0; replace hv270_0 := Option.some.inj (hv270_0.symm.trans hx270_0); rw [hv270_0] at ge270_0; have HL270_0 := Aside0.mk (show Kd.R (Kd.int .i64) 3 _ _ _ _ (rd_L3 t251 x18_2) from ge270_0); clear hv270_0 ge270_0; clear hcc270 hce270; have HR270_0 := Aside0.mk hi270_0; have HC270_0 := Aside0.mk hl270_0; clear hi270_0 hl270_0; replace p270 := eq_true p270; replace q270 := eq_true q270; have ea_ := Option.some.inj (hx268_0.symm.trans hx270_0); injection ea_ with ea_ en_ ec_; subst ea_; subst ec_; clear en_))
          repeat (go_quiet (first | (go_at_call 30; (with_reducible refine (numnahlaw06_within.calls k2 t244 _ _ (rd_L3 t251 x18_2) true _ ?side1 ?side2 A35.out).mono ?_); (case side1 => repeat (first | exact (by repeat (first | (with_reducible exact HR268_0.out) | (with_reducible refine Kd.C_alloc ?_ _) | (with_reducible refine Kd.C_drewN ?_ _) | (with_reducible refine Kd.C_drew ?_) | exact HR268_0.out)) | (with_reducible refine Kd.C_alloc ?_ _) | (with_reducible refine Kd.C_drewN ?_ _) | (with_reducible refine Kd.C_drew ?_))); (case side2 => exact HC268_0.out); rintro e w' ⟨rfl, ⟨nd, rfl⟩⟩; (try first | exact ⟨rfl, _, World.drewN_drewN _ _ _⟩ | exact ⟨rfl, _, Eq.trans (World.drewN_drewN _ _ _) (congrArg (World.drewN _) (Nat.add_assoc _ _ _))⟩); have p270 : 0 ≤ (x18_2 : Int) := of_decide_eq_true (by first | (with_reducible assumption) | assumption); have q270 : x18_2 < (t251.length : Int) := of_decide_eq_true (by first | (with_reducible assumption) | assumption); obtain ⟨ad270, A270_0, c270_0, e270, hx270_0, hl270_0, hi270_0⟩ := at_L3 (Kd.S_reads' HO_9.out).2.2 x18_2 p270 q270; obtain rfl : ad268 = ad270 := (by injection e270); obtain ⟨ce270, hce270, hMe270, hcc270⟩ := Kd.S_get HO_9.out [] x18_2 p270 (by first | exact q270 | exact of_decide_eq_true (by first | (with_reducible assumption) | assumption) | (have e_ := (Kd.S_reads' HO_9.out).1; omega)); obtain ⟨ve270_0, rfl, ge270_0⟩ := hMe270; have hv270_0 := hcc270 0 _ rfl; rw [Nat.add_zero, show ((Kd.slice 3 (Kd.int .i64))).sz = 1 from rfl, Nat.mul_one] at hv270_0; replace hv270_0 := Option.some.inj (hv270_0.symm.trans hx270_0); rw [hv270_0] at ge270_0; have HL270_0 := Aside0.mk (show Kd.R (Kd.int .i64) 3 _ _ _ _ (rd_L3 t251 x18_2) from ge270_0); clear hv270_0 ge270_0; clear hcc270 hce270; have HR270_0 := Aside0.mk hi270_0; have HC270_0 := Aside0.mk hl270_0; clear hi270_0 hl270_0; replace p270 := eq_true p270; replace q270 := eq_true q270; have ea_ := Option.some.inj (hx268_0.symm.trans hx270_0); injection ea_ with ea_ en_ ec_; subst ea_; subst ec_; clear en_)); try go_wp2_with (first | (go_at_call 30; (with_reducible refine (numnahlaw06_within.calls k2 t244 _ _ (rd_L3 t251 x18_2) true _ ?side1 ?side2 A35.out).mono ?_); (case side1 => repeat (first | exact (by repeat (first | (with_reducible exact HR268_0.out) | (with_reducible refine Kd.C_alloc ?_ _) | (with_reducible refine Kd.C_drewN ?_ _) | (with_reducible refine Kd.C_drew ?_) | exact HR268_0.out)) | (with_reducible refine Kd.C_alloc ?_ _) | (with_reducible refine Kd.C_drewN ?_ _) | (with_reducible refine Kd.C_drew ?_))); (case side2 => exact HC268_0.out); rintro e w' ⟨rfl, ⟨nd, rfl⟩⟩; (try first | exact ⟨rfl, _, World.drewN_drewN _ _ _⟩ | exact ⟨rfl, _, Eq.trans (World.drewN_drewN _ _ _) (congrArg (World.drewN _) (Nat.add_assoc _ _ _))⟩); have p270 : 0 ≤ (x18_2 : Int) := of_decide_eq_true (by first | (with_reducible assumption) | assumption); have q270 : x18_2 < (t251.length : Int) := of_decide_eq_true (by first | (with_reducible assumption) | assumption); obtain ⟨ad270, A270_0, c270_0, e270, hx270_0, hl270_0, hi270_0⟩ := at_L3 (Kd.S_reads' HO_9.out).2.2 x18_2 p270 q270; obtain rfl : ad268 = ad270 := (by injection e270); obtain ⟨ce270, hce270, hMe270, hcc270⟩ := Kd.S_get HO_9.out [] x18_2 p270 (by first | exact q270 | exact of_decide_eq_true (by first | (with_reducible assumption) | assumption) | (have e_ := (Kd.S_reads' HO_9.out).1; omega)); obtain ⟨ve270_0, rfl, ge270_0⟩ := hMe270; have hv270_0 := hcc270 0 _ rfl; rw [Nat.add_zero, show ((Kd.slice 3 (Kd.int .i64))).sz = 1 from rfl, Nat.mul_one] at hv270_0; replace hv270_0 := Option.some.inj (hv270_0.symm.trans hx270_0); rw [hv270_0] at ge270_0; have HL270_0 := Aside0.mk (show Kd.R (Kd.int .i64) 3 _ _ _ _ (rd_L3 t251 x18_2) from ge270_0); clear hv270_0 ge270_0; clear hcc270 hce270; have HR270_0 := Aside0.mk hi270_0; have HC270_0 := Aside0.mk hl270_0; clear hi270_0 hl270_0; replace p270 := eq_true p270; replace q270 := eq_true q270; have ea_ := Option.some.inj (hx268_0.symm.trans hx270_0); injection ea_ with ea_ en_ ec_; subst ea_; subst ec_; clear en_)))
          go_meet
          case rel => exact ⟨_, (decide (((rd_L3 t251 x18_2).length : Int) < 1)), (by first | rfl | (simp; done) | (simp [*]; done)), H', ⟨by have := HJ8.out; have := HK2.out; first | omega | exact Nat.le_refl _⟩, ⟨by (with_reducible repeat (first | apply Kd.R_alloc | apply Kd.R_drewN | apply Kd.R_drew)); exact HO_7.out⟩, ⟨by (with_reducible repeat (first | apply Kd.R_alloc | apply Kd.R_drewN | apply Kd.R_drew)); exact HO_8.out⟩, ⟨by (with_reducible repeat (first | apply Kd.S_alloc | apply Kd.S_drewN | apply Kd.S_drew)); exact HO_9.out⟩, ⟨by (with_reducible repeat (first | apply Kd.R_alloc | apply Kd.R_drewN | apply Kd.R_drew)); exact HO_11.out⟩, ⟨by (with_reducible repeat (first | apply Kd.R_alloc | apply Kd.R_drewN | apply Kd.R_drew)); exact HO_14.out⟩, ⟨by repeat (first | (with_reducible first | exact HB.out | apply below_alloc | apply pw_below_drewN | apply below_drew1) | exact HB.out)⟩⟩
         ·replace c36 := Bool.eq_false_iff.mpr c36
          subst c36
          have H1 : (numnahlaw06_WettingHits.j2 k2 t244 t245 t248 t251 t255 t260 x16_2 x17_2 x18_2 true) = some r := by rw [if_neg (show ¬ (false = true) by decide)] at H; exact H
          clear H
          have H := H1
          clear H1
          have H' := Aside0.mk H
          clear H
          have p268 : 0 ≤ (x18_2 : Int) := of_decide_eq_true (by first | (with_reducible assumption) | assumption)
          have q268 : x18_2 < (t251.length : Int) := of_decide_eq_true (by first | (with_reducible assumption) | assumption)
          obtain ⟨ad268, A268_0, c268_0, e268, hx268_0, hl268_0, hi268_0⟩ := at_L3 (Kd.S_reads' HO_9.out).2.2 x18_2 p268 q268
          cases e268
          obtain ⟨ce268, hce268, hMe268, hcc268⟩ := Kd.S_get HO_9.out [] x18_2 p268 (by first | exact q268 | exact of_decide_eq_true (by first | (with_reducible assumption) | assumption) | (have e_ := (Kd.S_reads' HO_9.out).1; omega))
          obtain ⟨ve268_0, rfl, ge268_0⟩ := hMe268
          have hv268_0 := hcc268 0 _ rfl
          rw [Nat.add_zero, show ((Kd.slice 3 (Kd.int .i64))).sz = 1 from rfl, Nat.mul_one] at hv268_0
          replace hv268_0 := Option.some.inj (hv268_0.symm.trans hx268_0)
          rw [hv268_0] at ge268_0
          have HL268_0 := Aside0.mk (show Kd.R (Kd.int .i64) 3 _ _ _ _ (rd_L3 t251 x18_2) from ge268_0)
          clear hv268_0 ge268_0
          clear hcc268 hce268
          have HR268_0 := Aside0.mk hi268_0
          have HC268_0 := Aside0.mk hl268_0
          clear hi268_0 hl268_0
          replace p268 := eq_true p268
          replace q268 := eq_true q268
          go_wp2_with (first | (go_at_call 30; (with_reducible refine (numnahlaw06_within.calls k2 t244 _ _ (rd_L3 t251 x18_2) false _ ?side1 ?side2 A35.out).mono ?_); (case side1 => repeat (first | exact (by repeat (first | (with_reducible exact HR268_0.out) | (with_reducible refine Kd.C_alloc ?_ _) | (with_reducible refine Kd.C_drewN ?_ _) | (with_reducible refine Kd.C_drew ?_) | exact HR268_0.out)) | (with_reducible refine Kd.C_alloc ?_ _) | (with_reducible refine Kd.C_drewN ?_ _) | (with_reducible refine Kd.C_drew ?_))); (case side2 => exact HC268_0.out); rintro e w' ⟨rfl, ⟨nd, rfl⟩⟩; (try first | exact ⟨rfl, _, World.drewN_drewN _ _ _⟩ | exact ⟨rfl, _, Eq.trans (World.drewN_drewN _ _ _) (congrArg (World.drewN _) (Nat.add_assoc _ _ _))⟩)))
          repeat (go_quiet (first | (go_at_call 30; (with_reducible refine (numnahlaw06_within.calls k2 t244 _ _ (rd_L3 t251 x18_2) false _ ?side1 ?side2 A35.out).mono ?_); (case side1 => repeat (first | exact (by repeat (first | (with_reducible exact HR268_0.out) | (with_reducible refine Kd.C_alloc ?_ _) | (with_reducible refine Kd.C_drewN ?_ _) | (with_reducible refine Kd.C_drew ?_) | exact HR268_0.out)) | (with_reducible refine Kd.C_alloc ?_ _) | (with_reducible refine Kd.C_drewN ?_ _) | (with_reducible refine Kd.C_drew ?_))); (case side2 => exact HC268_0.out); rintro e w' ⟨rfl, ⟨nd, rfl⟩⟩; (try first | exact ⟨rfl, _, World.drewN_drewN _ _ _⟩ | exact ⟨rfl, _, Eq.trans (World.drewN_drewN _ _ _) (congrArg (World.drewN _) (Nat.add_assoc _ _ _))⟩))); try go_wp2_with (first | (go_at_call 30; (with_reducible refine (numnahlaw06_within.calls k2 t244 _ _ (rd_L3 t251 x18_2) false _ ?side1 ?side2 A35.out).mono ?_); (case side1 => repeat (first | exact (by repeat (first | (with_reducible exact HR268_0.out) | (with_reducible refine Kd.C_alloc ?_ _) | (with_reducible refine Kd.C_drewN ?_ _) | (with_reducible refine Kd.C_drew ?_) | exact HR268_0.out)) | (with_reducible refine Kd.C_alloc ?_ _) | (with_reducible refine Kd.C_drewN ?_ _) | (with_reducible refine Kd.C_drew ?_))); (case side2 => exact HC268_0.out); rintro e w' ⟨rfl, ⟨nd, rfl⟩⟩; (try first | exact ⟨rfl, _, World.drewN_drewN _ _ _⟩ | exact ⟨rfl, _, Eq.trans (World.drewN_drewN _ _ _) (congrArg (World.drewN _) (Nat.add_assoc _ _ _))⟩))))
          go_meet
          case rel => exact ⟨_, (true), (by first | rfl | (simp; done) | (simp [*]; done)), H', ⟨by have := HJ8.out; have := HK2.out; first | omega | exact Nat.le_refl _⟩, ⟨by (with_reducible repeat (first | apply Kd.R_alloc | apply Kd.R_drewN | apply Kd.R_drew)); exact HO_7.out⟩, ⟨by (with_reducible repeat (first | apply Kd.R_alloc | apply Kd.R_drewN | apply Kd.R_drew)); exact HO_8.out⟩, ⟨by (with_reducible repeat (first | apply Kd.S_alloc | apply Kd.S_drewN | apply Kd.S_drew)); exact HO_9.out⟩, ⟨by (with_reducible repeat (first | apply Kd.R_alloc | apply Kd.R_drewN | apply Kd.R_drew)); exact HO_11.out⟩, ⟨by (with_reducible repeat (first | apply Kd.R_alloc | apply Kd.R_drewN | apply Kd.R_drew)); exact HO_14.out⟩, ⟨by repeat (first | (with_reducible first | exact HB.out | apply below_alloc | apply pw_below_drewN | apply below_drew1) | exact HB.out)⟩⟩
        ·rw [if_neg c34] at H
         exact absurd H (by simp)
       case rest =>
        clear HC32
        try clear c1
        try clear c2
        try clear p2
        try clear q2
        try clear hx2
        try clear c3
        try clear c4
        try clear c17
        try clear c17b0
        try clear c17b1
        try clear c18
        try clear c18b0
        try clear c18b1
        try clear c19
        try clear c19b0
        try clear c19b1
        try clear c20
        try clear c20b0
        try clear c20b1
        try clear c23
        try clear c26
        try clear p26
        try clear q26
        try clear hx26
        try clear c27
        try clear p27
        try clear q27
        try clear hx27
        try clear c30
        try clear c31
        try clear c31b0
        try clear c34
        try clear c34b0
        try clear c36
        try clear hx268_0
        try clear hx270_0
        try clear p2
        try clear p268
        try clear p270
        try clear q268
        try clear q270
        obtain ⟨kq, x98_31, rfl, HA, HJ31, HO_7, HO_8, HO_9, HO_11, HO_14, HB⟩ := hcut
        cases kq with
        | zero => exact absurd HA.out (by simp [numnahlaw06_WettingHits.j2])
        | succ kj31 =>
         have H := HA.out
         clear HA
         simp only [numnahlaw06_WettingHits.j2] at H
         by_cases c37 : x98_31 = true
         ·subst c37
          have H1 : (some false) = some r := by rw [if_pos rfl] at H; exact H
          clear H
          have H := H1
          clear H1
          obtain rfl := Option.some.inj H
          go_wp2
          repeat (go_quiet (fail); try go_wp2)
          go_ret
          exact ⟨by first | rfl | (simp [errW_none, errW_some] <;> rfl) | (simp [*, errW_none, errW_some] <;> rfl), by repeat (first | (with_reducible first | exact HB.out | apply below_alloc | apply pw_below_drewN | apply below_drew1) | exact HB.out)⟩
         ·replace c37 := Bool.eq_false_iff.mpr c37
          subst c37
          have H1 : (if 0 ≤ x18_2 then (if x18_2 < (t251.length : Int) then ((wetting_IsFort.f t244 t245 (rd_L3 t251 x18_2)).bind fun bt272 => (if bt272.2 = 0 then (numnahlaw06_WettingHits.j3 kj31 t244 t245 t248 t251 t255 t260 x16_2 x17_2 x18_2 (!bt272.1)) else (numnahlaw06_WettingHits.j3 kj31 t244 t245 t248 t251 t255 t260 x16_2 x17_2 x18_2 true))) else (none)) else (none)) = some r := by rw [if_neg (show ¬ (false = true) by decide)] at H; exact H
          clear H
          have H := H1
          clear H1
          by_cases c38 : 0 ≤ x18_2
          ·rw [if_pos c38] at H
           have c38b0 : decide (0 ≤ x18_2) = true := decide_eq_true c38
           clear c38
           by_cases c39 : x18_2 < (t251.length : Int)
           ·rw [if_pos c39] at H
            have c39b0 : decide (x18_2 < (t251.length : Int)) = true := decide_eq_true c39
            clear c39
            replace H := Option.bind_eq_some_iff.mp H
            obtain ⟨⟨t272, t273⟩, A400, H⟩ := H
            replace H : (if t273 = 0 then (numnahlaw06_WettingHits.j3 kj31 t244 t245 t248 t251 t255 t260 x16_2 x17_2 x18_2 (!t272)) else (numnahlaw06_WettingHits.j3 kj31 t244 t245 t248 t251 t255 t260 x16_2 x17_2 x18_2 true)) = some r := H
            have A40 := Aside0.mk A400
            clear A400
            have HC41 := Aside0.mk H
            clear H
            have p271 : 0 ≤ (x18_2 : Int) := of_decide_eq_true (by first | (with_reducible assumption) | assumption)
            have q271 : x18_2 < (t251.length : Int) := of_decide_eq_true (by first | (with_reducible assumption) | assumption)
            obtain ⟨ad271, A271_0, c271_0, e271, hx271_0, hl271_0, hi271_0⟩ := at_L3 (Kd.S_reads' HO_9.out).2.2 x18_2 p271 q271
            cases e271
            obtain ⟨ce271, hce271, hMe271, hcc271⟩ := Kd.S_get HO_9.out [] x18_2 p271 (by first | exact q271 | exact of_decide_eq_true (by first | (with_reducible assumption) | assumption) | (have e_ := (Kd.S_reads' HO_9.out).1; omega))
            obtain ⟨ve271_0, rfl, ge271_0⟩ := hMe271
            have hv271_0 := hcc271 0 _ rfl
            rw [Nat.add_zero, show ((Kd.slice 3 (Kd.int .i64))).sz = 1 from rfl, Nat.mul_one] at hv271_0
            replace hv271_0 := Option.some.inj (hv271_0.symm.trans hx271_0)
            rw [hv271_0] at ge271_0
            have HL271_0 := Aside0.mk (show Kd.R (Kd.int .i64) 3 _ _ _ _ (rd_L3 t251 x18_2) from ge271_0)
            clear hv271_0 ge271_0
            clear hcc271 hce271
            have HR271_0 := Aside0.mk hi271_0
            have HC271_0 := Aside0.mk hl271_0
            clear hi271_0 hl271_0
            replace p271 := eq_true p271
            replace q271 := eq_true q271
            go_upto_region 15 with (first | (go_at_call 31; (with_reducible refine (wetting_IsFort.calls t244 _ _ t245 _ _ (rd_L3 t251 x18_2) t272 t273 _ ?side1 ?side2 ?side3 ?side4 A40.out ?sideT).mono ?_); (case sideT => exact tab_of (by repeat (first | (with_reducible first | exact HB.out | apply below_alloc | apply pw_below_drewN | apply below_drew1) | exact HB.out)) HT.out); (case side1 => repeat (first | exact (Kd.R_reads' HO_7.out).2.2 | (with_reducible refine Kd.C_alloc ?_ _) | (with_reducible refine Kd.C_drewN ?_ _) | (with_reducible refine Kd.C_drew ?_))); (case side2 => exact (Kd.R_reads' HO_7.out).2.1); (case side3 => repeat (first | exact (by repeat (first | (with_reducible exact HR271_0.out) | (with_reducible refine Kd.C_alloc ?_ _) | (with_reducible refine Kd.C_drewN ?_ _) | (with_reducible refine Kd.C_drew ?_) | exact HR271_0.out)) | (with_reducible refine Kd.C_alloc ?_ _) | (with_reducible refine Kd.C_drewN ?_ _) | (with_reducible refine Kd.C_drew ?_))); (case side4 => exact HC271_0.out); rintro e w42 ⟨rfl, hb⟩; have n0_ := Aside0.mk (Kd.R_below (by (with_reducible repeat (first | apply Kd.R_alloc | apply Kd.R_drewN | apply Kd.R_drew)); exact HO_7.out) hb); have n1_ := Aside0.mk (Kd.R_below (by (with_reducible repeat (first | apply Kd.R_alloc | apply Kd.R_drewN | apply Kd.R_drew)); exact HO_8.out) hb); have n2_ := Aside0.mk (Kd.S_below (by (with_reducible repeat (first | apply Kd.S_alloc | apply Kd.S_drewN | apply Kd.S_drew)); exact HO_9.out) hb); have n3_ := Aside0.mk (Kd.R_below (by (with_reducible repeat (first | apply Kd.R_alloc | apply Kd.R_drewN | apply Kd.R_drew)); exact HO_11.out) hb); have n4_ := Aside0.mk (Kd.R_below (by (with_reducible repeat (first | apply Kd.R_alloc | apply Kd.R_drewN | apply Kd.R_drew)); exact HO_14.out) hb); have n5_ := Aside0.mk (Kd.R_below (by (with_reducible repeat (first | apply Kd.R_alloc | apply Kd.R_drewN | apply Kd.R_drew)); exact HL271_0.out) hb); have n6_ := Aside0.mk (Kd.C_below (by repeat (first | (with_reducible exact HR271_0.out) | (with_reducible refine Kd.C_alloc ?_ _) | (with_reducible refine Kd.C_drewN ?_ _) | (with_reducible refine Kd.C_drew ?_) | exact HR271_0.out)) hb); have n7_ := Aside0.mk (below_step (by repeat (first | (with_reducible first | exact HB.out | apply below_alloc | apply pw_below_drewN | apply below_drew1) | exact HB.out)) hb); clear HO_7; clear HO_8; clear HO_9; clear HO_11; clear HO_14; clear HL271_0; clear HR271_0; clear HB; have HO_7 := n0_; have HO_8 := n1_; have HO_9 := n2_; have HO_11 := n3_; have HO_14 := n4_; have HL271_0 := n5_; have HR271_0 := n6_; have HB := n7_; clear n0_ n1_ n2_ n3_ n4_ n5_ n6_ n7_; (try clear hb); (try clear hb2); (try clear hk); (try clear hi)))
            repeat (go_quiet (first | (go_at_call 31; (with_reducible refine (wetting_IsFort.calls t244 _ _ t245 _ _ (rd_L3 t251 x18_2) t272 t273 _ ?side1 ?side2 ?side3 ?side4 A40.out ?sideT).mono ?_); (case sideT => exact tab_of (by repeat (first | (with_reducible first | exact HB.out | apply below_alloc | apply pw_below_drewN | apply below_drew1) | exact HB.out)) HT.out); (case side1 => repeat (first | exact (Kd.R_reads' HO_7.out).2.2 | (with_reducible refine Kd.C_alloc ?_ _) | (with_reducible refine Kd.C_drewN ?_ _) | (with_reducible refine Kd.C_drew ?_))); (case side2 => exact (Kd.R_reads' HO_7.out).2.1); (case side3 => repeat (first | exact (by repeat (first | (with_reducible exact HR271_0.out) | (with_reducible refine Kd.C_alloc ?_ _) | (with_reducible refine Kd.C_drewN ?_ _) | (with_reducible refine Kd.C_drew ?_) | exact HR271_0.out)) | (with_reducible refine Kd.C_alloc ?_ _) | (with_reducible refine Kd.C_drewN ?_ _) | (with_reducible refine Kd.C_drew ?_))); (case side4 => exact HC271_0.out); rintro e w42 ⟨rfl, hb⟩; have n0_ := Aside0.mk (Kd.R_below (by (with_reducible repeat (first | apply Kd.R_alloc | apply Kd.R_drewN | apply Kd.R_drew)); exact HO_7.out) hb); have n1_ := Aside0.mk (Kd.R_below (by (with_reducible repeat (first | apply Kd.R_alloc | apply Kd.R_drewN | apply Kd.R_drew)); exact HO_8.out) hb); have n2_ := Aside0.mk (Kd.S_below (by (with_reducible repeat (first | apply Kd.S_alloc | apply Kd.S_drewN | apply Kd.S_drew)); exact HO_9.out) hb); have n3_ := Aside0.mk (Kd.R_below (by (with_reducible repeat (first | apply Kd.R_alloc | apply Kd.R_drewN | apply Kd.R_drew)); exact HO_11.out) hb); have n4_ := Aside0.mk (Kd.R_below (by (with_reducible repeat (first | apply Kd.R_alloc | apply Kd.R_drewN | apply Kd.R_drew)); exact HO_14.out) hb); have n5_ := Aside0.mk (Kd.R_below (by (with_reducible repeat (first | apply Kd.R_alloc | apply Kd.R_drewN | apply Kd.R_drew)); exact HL271_0.out) hb); have n6_ := Aside0.mk (Kd.C_below (by repeat (first | (with_reducible exact HR271_0.out) | (with_reducible refine Kd.C_alloc ?_ _) | (with_reducible refine Kd.C_drewN ?_ _) | (with_reducible refine Kd.C_drew ?_) | exact HR271_0.out)) hb); have n7_ := Aside0.mk (below_step (by repeat (first | (with_reducible first | exact HB.out | apply below_alloc | apply pw_below_drewN | apply below_drew1) | exact HB.out)) hb); clear HO_7; clear HO_8; clear HO_9; clear HO_11; clear HO_14; clear HL271_0; clear HR271_0; clear HB; have HO_7 := n0_; have HO_8 := n1_; have HO_9 := n2_; have HO_11 := n3_; have HO_14 := n4_; have HL271_0 := n5_; have HR271_0 := n6_; have HB := n7_; clear n0_ n1_ n2_ n3_ n4_ n5_ n6_ n7_; (try clear hb); (try clear hb2); (try clear hk); (try clear hi))); go_upto_region 15 with (first | (go_at_call 31; (with_reducible refine (wetting_IsFort.calls t244 _ _ t245 _ _ (rd_L3 t251 x18_2) t272 t273 _ ?side1 ?side2 ?side3 ?side4 A40.out ?sideT).mono ?_); (case sideT => exact tab_of (by repeat (first | (with_reducible first | exact HB.out | apply below_alloc | apply pw_below_drewN | apply below_drew1) | exact HB.out)) HT.out); (case side1 => repeat (first | exact (Kd.R_reads' HO_7.out).2.2 | (with_reducible refine Kd.C_alloc ?_ _) | (with_reducible refine Kd.C_drewN ?_ _) | (with_reducible refine Kd.C_drew ?_))); (case side2 => exact (Kd.R_reads' HO_7.out).2.1); (case side3 => repeat (first | exact (by repeat (first | (with_reducible exact HR271_0.out) | (with_reducible refine Kd.C_alloc ?_ _) | (with_reducible refine Kd.C_drewN ?_ _) | (with_reducible refine Kd.C_drew ?_) | exact HR271_0.out)) | (with_reducible refine Kd.C_alloc ?_ _) | (with_reducible refine Kd.C_drewN ?_ _) | (with_reducible refine Kd.C_drew ?_))); (case side4 => exact HC271_0.out); rintro e w42 ⟨rfl, hb⟩; have n0_ := Aside0.mk (Kd.R_below (by (with_reducible repeat (first | apply Kd.R_alloc | apply Kd.R_drewN | apply Kd.R_drew)); exact HO_7.out) hb); have n1_ := Aside0.mk (Kd.R_below (by (with_reducible repeat (first | apply Kd.R_alloc | apply Kd.R_drewN | apply Kd.R_drew)); exact HO_8.out) hb); have n2_ := Aside0.mk (Kd.S_below (by (with_reducible repeat (first | apply Kd.S_alloc | apply Kd.S_drewN | apply Kd.S_drew)); exact HO_9.out) hb); have n3_ := Aside0.mk (Kd.R_below (by (with_reducible repeat (first | apply Kd.R_alloc | apply Kd.R_drewN | apply Kd.R_drew)); exact HO_11.out) hb); have n4_ := Aside0.mk (Kd.R_below (by (with_reducible repeat (first | apply Kd.R_alloc | apply Kd.R_drewN | apply Kd.R_drew)); exact HO_14.out) hb); have n5_ := Aside0.mk (Kd.R_below (by (with_reducible repeat (first | apply Kd.R_alloc | apply Kd.R_drewN | apply Kd.R_drew)); exact HL271_0.out) hb); have n6_ := Aside0.mk (Kd.C_below (by repeat (first | (with_reducible exact HR271_0.out) | (with_reducible refine Kd.C_alloc ?_ _) | (with_reducible refine Kd.C_drewN ?_ _) | (with_reducible refine Kd.C_drew ?_) | exact HR271_0.out)) hb); have n7_ := Aside0.mk (below_step (by repeat (first | (with_reducible first | exact HB.out | apply below_alloc | apply pw_below_drewN | apply below_drew1) | exact HB.out)) hb); clear HO_7; clear HO_8; clear HO_9; clear HO_11; clear HO_14; clear HL271_0; clear HR271_0; clear HB; have HO_7 := n0_; have HO_8 := n1_; have HO_9 := n2_; have HO_11 := n3_; have HO_14 := n4_; have HL271_0 := n5_; have HR271_0 := n6_; have HB := n7_; clear n0_ n1_ n2_ n3_ n4_ n5_ n6_ n7_; (try clear hb); (try clear hb2); (try clear hk); (try clear hi))))
            (try simp only [Act.put, List.setIfInBounds_toArray, List.set_cons_zero, List.set_cons_succ])
            go_cut [114] (fun v114 wc => ∃ (kq : Nat) (x114_40 : Bool), v114 = .bool x114_40 ∧ Aside0 (numnahlaw06_WettingHits.j3 kq t244 t245 t248 t251 t255 t260 x16_2 x17_2 x18_2 x114_40 = some r) ∧ Aside0 (kq ≤ kj31) ∧ Aside0 (Kd.R k48 48 wc w.heap.size (fun _ => True) (.slice Ao12 t245.length co12) t245) ∧ Aside0 (Kd.R (Kd.int .i64) 3 wc w.heap.size (fun k_ => some k_ ≠ (v258 : Value).ownBlock ∧ some k_ ≠ (v262 : Value).ownBlock) (.slice Ao14 t248.length co14) t248) ∧ Aside0 (Kd.S (Kd.slice 3 (Kd.int .i64)) 24 wc w.heap.size (fun k_ => some k_ ≠ ((.slice Ao14 t248.length co14) : Value).ownBlock ∧ some k_ ≠ (v258 : Value).ownBlock ∧ some k_ ≠ (v262 : Value).ownBlock) (.slice (some ad271) t251.length co33) t251) ∧ Aside0 (Kd.R (Kd.int .i64) 3 wc w.heap.size (fun k_ => some k_ ≠ ((.slice Ao14 t248.length co14) : Value).ownBlock ∧ some k_ ≠ (v262 : Value).ownBlock) v258 t255) ∧ Aside0 (Kd.R (Kd.int .i64) 3 wc w.heap.size (fun k_ => some k_ ≠ ((.slice Ao14 t248.length co14) : Value).ownBlock ∧ some k_ ≠ (v258 : Value).ownBlock) v262 t260) ∧ Aside0 (Kd.C (Kd.int .i64) wc A271_0 (rd_L3 t251 x18_2).length (rd_L3 t251 x18_2)) ∧ Aside0 (Below w.heap.size w wc))
            case first =>
             have H := HC41.out
             clear HC41
             by_cases c43 : t273 = 0
             ·rw [if_pos c43] at H
              have c43b0 : (t273 == 0) = true := beq_iff_eq.mpr c43
              have c43b1 : (t273 != 0) = false := bne_eq_false_iff_eq.mpr c43
              clear c43
              (first | rw [c43b0] | (simp only [i64_w, i32_w]; rw [c43b0]) | skip)
              have H' := Aside0.mk H
              clear H
              go_wp2
              repeat (go_quiet (fail); try go_wp2)
              go_meet
              case rel => exact ⟨_, (!t272), (by first | rfl | (simp; done) | (simp [*]; done)), H', ⟨by have := HJ8.out; have := HK2.out; have := HJ31.out; first | omega | exact Nat.le_refl _⟩, ⟨by (with_reducible repeat (first | apply Kd.R_alloc | apply Kd.R_drewN | apply Kd.R_drew)); exact HO_7.out⟩, ⟨by (with_reducible repeat (first | apply Kd.R_alloc | apply Kd.R_drewN | apply Kd.R_drew)); exact HO_8.out⟩, ⟨by (with_reducible repeat (first | apply Kd.S_alloc | apply Kd.S_drewN | apply Kd.S_drew)); exact HO_9.out⟩, ⟨by (with_reducible repeat (first | apply Kd.R_alloc | apply Kd.R_drewN | apply Kd.R_drew)); exact HO_11.out⟩, ⟨by (with_reducible repeat (first | apply Kd.R_alloc | apply Kd.R_drewN | apply Kd.R_drew)); exact HO_14.out⟩, ⟨by repeat (first | (with_reducible exact HR271_0.out) | (with_reducible refine Kd.C_alloc ?_ _) | (with_reducible refine Kd.C_drewN ?_ _) | (with_reducible refine Kd.C_drew ?_) | exact HR271_0.out)⟩, ⟨by repeat (first | (with_reducible first | exact HB.out | apply below_alloc | apply pw_below_drewN | apply below_drew1) | exact HB.out)⟩⟩
             ·rw [if_neg c43] at H
              have c43b0 : (t273 == 0) = false := beq_eq_false_iff_ne.mpr c43
              have c43b1 : (t273 != 0) = true := bne_iff_ne.mpr c43
              (first | rw [c43b0] | (simp only [i64_w, i32_w]; rw [c43b0]) | skip)
              have H' := Aside0.mk H
              clear H
              go_wp2
              repeat (go_quiet (fail); try go_wp2)
              go_meet
              case rel => exact ⟨_, (true), (by first | rfl | (simp; done) | (simp [*]; done)), H', ⟨by have := HJ8.out; have := HK2.out; have := HJ31.out; first | omega | exact Nat.le_refl _⟩, ⟨by (with_reducible repeat (first | apply Kd.R_alloc | apply Kd.R_drewN | apply Kd.R_drew)); exact HO_7.out⟩, ⟨by (with_reducible repeat (first | apply Kd.R_alloc | apply Kd.R_drewN | apply Kd.R_drew)); exact HO_8.out⟩, ⟨by (with_reducible repeat (first | apply Kd.S_alloc | apply Kd.S_drewN | apply Kd.S_drew)); exact HO_9.out⟩, ⟨by (with_reducible repeat (first | apply Kd.R_alloc | apply Kd.R_drewN | apply Kd.R_drew)); exact HO_11.out⟩, ⟨by (with_reducible repeat (first | apply Kd.R_alloc | apply Kd.R_drewN | apply Kd.R_drew)); exact HO_14.out⟩, ⟨by repeat (first | (with_reducible exact HR271_0.out) | (with_reducible refine Kd.C_alloc ?_ _) | (with_reducible refine Kd.C_drewN ?_ _) | (with_reducible refine Kd.C_drew ?_) | exact HR271_0.out)⟩, ⟨by repeat (first | (with_reducible first | exact HB.out | apply below_alloc | apply pw_below_drewN | apply below_drew1) | exact HB.out)⟩⟩
            case rest =>
             clear HC41
             try clear c1
             try clear c2
             try clear p2
             try clear q2
             try clear hx2
             try clear c3
             try clear c4
             try clear c17
             try clear c17b0
             try clear c17b1
             try clear c18
             try clear c18b0
             try clear c18b1
             try clear c19
             try clear c19b0
             try clear c19b1
             try clear c20
             try clear c20b0
             try clear c20b1
             try clear c23
             try clear c26
             try clear p26
             try clear q26
             try clear hx26
             try clear c27
             try clear p27
             try clear q27
             try clear hx27
             try clear c30
             try clear c31
             try clear c31b0
             try clear c34
             try clear c34b0
             try clear c36
             try clear c37
             try clear c38
             try clear c38b0
             try clear c39
             try clear c39b0
             try clear c43
             try clear c43b0
             try clear c43b1
             try clear hx268_0
             try clear hx270_0
             try clear hx271_0
             try clear p2
             try clear p26
             try clear p268
             try clear p27
             try clear p270
             try clear p271
             try clear q2
             try clear q26
             try clear q268
             try clear q27
             try clear q270
             try clear q271
             obtain ⟨kq, x114_40, rfl, HA, HJ40, HO_7, HO_8, HO_9, HO_11, HO_14, HR271_0, HB⟩ := hcut
             cases kq with
             | zero => exact absurd HA.out (by simp [numnahlaw06_WettingHits.j3])
             | succ kj40 =>
              have H := HA.out
              clear HA
              simp only [numnahlaw06_WettingHits.j3] at H
              by_cases c44 : x114_40 = true
              ·subst c44
               have H1 : (some false) = some r := by rw [if_pos rfl] at H; exact H
               clear H
               have H := H1
               clear H1
               obtain rfl := Option.some.inj H
               go_wp2
               repeat (go_quiet (fail); try go_wp2)
               go_ret
               exact ⟨by first | rfl | (simp [errW_none, errW_some] <;> rfl) | (simp [*, errW_none, errW_some] <;> rfl), by repeat (first | (with_reducible first | exact HB.out | apply below_alloc | apply pw_below_drewN | apply below_drew1) | exact HB.out)⟩
              ·replace c44 := Bool.eq_false_iff.mpr c44
               subst c44
               have H1 : (if x16_2 = true then (if 0 ≤ x18_2 then (if x18_2 < (t251.length : Int) then ((numnahref06_Set.f kj40 (rd_L3 t251 x18_2)).bind fun t275 => ((numnahref06_Set.f kj40 t248).bind fun t276 => (numnahlaw06_WettingHits.j4 kj40 t244 t245 t248 t251 t255 t260 ((Go.bits .and .i64 t275 t276) != 0) x17_2 x18_2))) else (none)) else (none)) else (numnahlaw06_WettingHits.j4 kj40 t244 t245 t248 t251 t255 t260 false x17_2 x18_2)) = some r := by rw [if_neg (show ¬ (false = true) by decide)] at H; exact H
               clear H
               have H := H1
               clear H1
               have HC45 := Aside0.mk H
               clear H
               go_upto_region 17 with (fail)
               repeat (go_quiet (fail); go_upto_region 17 with (fail))
               go_cut [16] (fun v16 wc => ∃ (kq : Nat) (x16_44 : Bool), v16 = .bool x16_44 ∧ Aside0 (numnahlaw06_WettingHits.j4 kq t244 t245 t248 t251 t255 t260 x16_44 x17_2 x18_2 = some r) ∧ Aside0 (kq ≤ kj40) ∧ Aside0 (Kd.R k48 48 wc w.heap.size (fun _ => True) (.slice Ao12 t245.length co12) t245) ∧ Aside0 (Kd.R (Kd.int .i64) 3 wc w.heap.size (fun k_ => some k_ ≠ (v258 : Value).ownBlock ∧ some k_ ≠ (v262 : Value).ownBlock) (.slice Ao14 t248.length co14) t248) ∧ Aside0 (Kd.S (Kd.slice 3 (Kd.int .i64)) 24 wc w.heap.size (fun k_ => some k_ ≠ ((.slice Ao14 t248.length co14) : Value).ownBlock ∧ some k_ ≠ (v258 : Value).ownBlock ∧ some k_ ≠ (v262 : Value).ownBlock) (.slice (some ad271) t251.length co33) t251) ∧ Aside0 (Kd.R (Kd.int .i64) 3 wc w.heap.size (fun k_ => some k_ ≠ ((.slice Ao14 t248.length co14) : Value).ownBlock ∧ some k_ ≠ (v262 : Value).ownBlock) v258 t255) ∧ Aside0 (Kd.R (Kd.int .i64) 3 wc w.heap.size (fun k_ => some k_ ≠ ((.slice Ao14 t248.length co14) : Value).ownBlock ∧ some k_ ≠ (v258 : Value).ownBlock) v262 t260) ∧ Aside0 (Kd.C (Kd.int .i64) wc A271_0 (rd_L3 t251 x18_2).length (rd_L3 t251 x18_2)) ∧ Aside0 (Below w.heap.size w wc))
               case first =>
                have H := HC45.out
                clear HC45
                by_cases c46 : x16_2 = true
                ·subst c46
                 have H1 : (if 0 ≤ x18_2 then (if x18_2 < (t251.length : Int) then ((numnahref06_Set.f kj40 (rd_L3 t251 x18_2)).bind fun t275 => ((numnahref06_Set.f kj40 t248).bind fun t276 => (numnahlaw06_WettingHits.j4 kj40 t244 t245 t248 t251 t255 t260 ((Go.bits .and .i64 t275 t276) != 0) x17_2 x18_2))) else (none)) else (none)) = some r := by rw [if_pos rfl] at H; exact H
                 clear H
                 have H := H1
                 clear H1
                 by_cases c47 : 0 ≤ x18_2
                 ·rw [if_pos c47] at H
                  have c47b0 : decide (0 ≤ x18_2) = true := decide_eq_true c47
                  clear c47
                  (first | rw [c47b0] | (simp only [i64_w, i32_w]; rw [c47b0]) | skip)
                  by_cases c48 : x18_2 < (t251.length : Int)
                  ·rw [if_pos c48] at H
                   have c48b0 : decide (x18_2 < (t251.length : Int)) = true := decide_eq_true c48
                   clear c48
                   replace H := Option.bind_eq_some_iff.mp H
                   obtain ⟨t275, A490, H⟩ := H
                   replace H : ((numnahref06_Set.f kj40 t248).bind fun t276 => (numnahlaw06_WettingHits.j4 kj40 t244 t245 t248 t251 t255 t260 ((Go.bits .and .i64 t275 t276) != 0) x17_2 x18_2)) = some r := H
                   have A49 := Aside0.mk A490
                   clear A490
                   replace H := Option.bind_eq_some_iff.mp H
                   obtain ⟨t276, A500, H⟩ := H
                   replace H : (numnahlaw06_WettingHits.j4 kj40 t244 t245 t248 t251 t255 t260 ((Go.bits .and .i64 t275 t276) != 0) x17_2 x18_2) = some r := H
                   have A50 := Aside0.mk A500
                   clear A500
                   have H' := Aside0.mk H
                   clear H
                   have p274 : 0 ≤ (x18_2 : Int) := of_decide_eq_true (by first | (with_reducible assumption) | assumption)
                   have q274 : x18_2 < (t251.length : Int) := of_decide_eq_true (by first | (with_reducible assumption) | assumption)
                   obtain ⟨ad274, A274_0, c274_0, e274, hx274_0, hl274_0, hi274_0⟩ := at_L3 (Kd.S_reads' HO_9.out).2.2 x18_2 p274 q274
                   obtain rfl : ad271 = ad274 := (by injection e274)
                   obtain ⟨ce274, hce274, hMe274, hcc274⟩ := Kd.S_get HO_9.out [] x18_2 p274 (by first | exact q274 | exact of_decide_eq_true (by first | (with_reducible assumption) | assumption) | (have e_ := (Kd.S_reads' HO_9.out).1; omega))
                   obtain ⟨ve274_0, rfl, ge274_0⟩ := hMe274
                   have hv274_0 := hcc274 0 _ rfl
                   rw [Nat.add_zero, show ((Kd.slice 3 (Kd.int .i64))).sz = 1 from rfl, Nat.mul_one] at hv274_0
                   replace hv274_0 := Option.some.inj (hv274_0.symm.trans hx274_0)
                   rw [hv274_0] at ge274_0
                   have HL274_0 := Aside0.mk (show Kd.R (Kd.int .i64) 3 _ _ _ _ (rd_L3 t251 x18_2) from ge274_0)
                   clear hv274_0 ge274_0
                   clear hcc274 hce274
                   have HR274_0 := Aside0.mk hi274_0
                   have HC274_0 := Aside0.mk hl274_0
                   clear hi274_0 hl274_0
                   replace p274 := eq_true p274
                   replace q274 := eq_true q274
                   go_wp2_with (first | (go_at_call 32; (with_reducible refine (numnahref06_Set.calls kj40 _ _ (rd_L3 t251 x18_2) t275 _ ?side1 ?side2 A49.out).mono ?_); (case side1 => repeat (first | exact (by repeat (first | (with_reducible exact HR274_0.out) | (with_reducible refine Kd.C_alloc ?_ _) | (with_reducible refine Kd.C_drewN ?_ _) | (with_reducible refine Kd.C_drew ?_) | exact HR274_0.out)) | (with_reducible refine Kd.C_alloc ?_ _) | (with_reducible refine Kd.C_drewN ?_ _) | (with_reducible refine Kd.C_drew ?_))); (case side2 => exact HC274_0.out); rintro e w' ⟨rfl, ⟨nd, rfl⟩⟩; (try first | exact ⟨rfl, _, World.drewN_drewN _ _ _⟩ | exact ⟨rfl, _, Eq.trans (World.drewN_drewN _ _ _) (congrArg (World.drewN _) (Nat.add_assoc _ _ _))⟩)) | (go_at_call 32; (with_reducible refine (numnahref06_Set.calls kj40 _ _ t248 t276 _ ?side1 ?side2 A50.out).mono ?_); (case side1 => repeat (first | exact (Kd.R_reads' HO_8.out).2.2 | (with_reducible refine Kd.C_alloc ?_ _) | (with_reducible refine Kd.C_drewN ?_ _) | (with_reducible refine Kd.C_drew ?_))); (case side2 => exact (Kd.R_reads' HO_8.out).2.1); rintro e w' ⟨rfl, ⟨nd, rfl⟩⟩; (try first | exact ⟨rfl, _, World.drewN_drewN _ _ _⟩ | exact ⟨rfl, _, Eq.trans (World.drewN_drewN _ _ _) (congrArg (World.drewN _) (Nat.add_assoc _ _ _))⟩)))
                   repeat (go_quiet (first | (go_at_call 32; (with_reducible refine (numnahref06_Set.calls kj40 _ _ (rd_L3 t251 x18_2) t275 _ ?side1 ?side2 A49.out).mono ?_); (case side1 => repeat (first | exact (by repeat (first | (with_reducible exact HR274_0.out) | (with_reducible refine Kd.C_alloc ?_ _) | (with_reducible refine Kd.C_drewN ?_ _) | (with_reducible refine Kd.C_drew ?_) | exact HR274_0.out)) | (with_reducible refine Kd.C_alloc ?_ _) | (with_reducible refine Kd.C_drewN ?_ _) | (with_reducible refine Kd.C_drew ?_))); (case side2 => exact HC274_0.out); rintro e w' ⟨rfl, ⟨nd, rfl⟩⟩; (try first | exact ⟨rfl, _, World.drewN_drewN _ _ _⟩ | exact ⟨rfl, _, Eq.trans (World.drewN_drewN _ _ _) (congrArg (World.drewN _) (Nat.add_assoc _ _ _))⟩)) | (go_at_call 32; (with_reducible refine (numnahref06_Set.calls kj40 _ _ t248 t276 _ ?side1 ?side2 A50.out).mono ?_); (case side1 => repeat (first | exact (Kd.R_reads' HO_8.out).2.2 | (with_reducible refine Kd.C_alloc ?_ _) | (with_reducible refine Kd.C_drewN ?_ _) | (with_reducible refine Kd.C_drew ?_))); (case side2 => exact (Kd.R_reads' HO_8.out).2.1); rintro e w' ⟨rfl, ⟨nd, rfl⟩⟩; (try first | exact ⟨rfl, _, World.drewN_drewN _ _ _⟩ | exact ⟨rfl, _, Eq.trans (World.drewN_drewN _ _ _) (congrArg (World.drewN _) (Nat.add_assoc _ _ _))⟩))); try go_wp2_with (first | (go_at_call 32; (with_reducible refine (numnahref06_Set.calls kj40 _ _ (rd_L3 t251 x18_2) t275 _ ?side1 ?side2 A49.out).mono ?_); (case side1 => repeat (first | exact (by repeat (first | (with_reducible exact HR274_0.out) | (with_reducible refine Kd.C_alloc ?_ _) | (with_reducible refine Kd.C_drewN ?_ _) | (with_reducible refine Kd.C_drew ?_) | exact HR274_0.out)) | (with_reducible refine Kd.C_alloc ?_ _) | (with_reducible refine Kd.C_drewN ?_ _) | (with_reducible refine Kd.C_drew ?_))); (case side2 => exact HC274_0.out); rintro e w' ⟨rfl, ⟨nd, rfl⟩⟩; (try first | exact ⟨rfl, _, World.drewN_drewN _ _ _⟩ | exact ⟨rfl, _, Eq.trans (World.drewN_drewN _ _ _) (congrArg (World.drewN _) (Nat.add_assoc _ _ _))⟩)) | (go_at_call 32; (with_reducible refine (numnahref06_Set.calls kj40 _ _ t248 t276 _ ?side1 ?side2 A50.out).mono ?_); (case side1 => repeat (first | exact (Kd.R_reads' HO_8.out).2.2 | (with_reducible refine Kd.C_alloc ?_ _) | (with_reducible refine Kd.C_drewN ?_ _) | (with_reducible refine Kd.C_drew ?_))); (case side2 => exact (Kd.R_reads' HO_8.out).2.1); rintro e w' ⟨rfl, ⟨nd, rfl⟩⟩; (try first | exact ⟨rfl, _, World.drewN_drewN _ _ _⟩ | exact ⟨rfl, _, Eq.trans (World.drewN_drewN _ _ _) (congrArg (World.drewN _) (Nat.add_assoc _ _ _))⟩))))
                   go_meet
                   case rel => exact ⟨_, (((Go.bits .and .i64 t275 t276) != 0)), (by first | rfl | (simp; done) | (simp [*]; done)), H', ⟨by have := HJ8.out; have := HK2.out; have := HJ31.out; have := HJ40.out; first | omega | exact Nat.le_refl _⟩, ⟨by (with_reducible repeat (first | apply Kd.R_alloc | apply Kd.R_drewN | apply Kd.R_drew)); exact HO_7.out⟩, ⟨by (with_reducible repeat (first | apply Kd.R_alloc | apply Kd.R_drewN | apply Kd.R_drew)); exact HO_8.out⟩, ⟨by (with_reducible repeat (first | apply Kd.S_alloc | apply Kd.S_drewN | apply Kd.S_drew)); exact HO_9.out⟩, ⟨by (with_reducible repeat (first | apply Kd.R_alloc | apply Kd.R_drewN | apply Kd.R_drew)); exact HO_11.out⟩, ⟨by (with_reducible repeat (first | apply Kd.R_alloc | apply Kd.R_drewN | apply Kd.R_drew)); exact HO_14.out⟩, ⟨by repeat (first | (with_reducible exact HR271_0.out) | (with_reducible refine Kd.C_alloc ?_ _) | (with_reducible refine Kd.C_drewN ?_ _) | (with_reducible refine Kd.C_drew ?_) | exact HR271_0.out)⟩, ⟨by repeat (first | (with_reducible first | exact HB.out | apply below_alloc | apply pw_below_drewN | apply below_drew1) | exact HB.out)⟩⟩
                  ·rw [if_neg c48] at H
                   exact absurd H (by simp)
                 ·rw [if_neg c47] at H
                  exact absurd H (by simp)
                ·replace c46 := Bool.eq_false_iff.mpr c46
                 subst c46
                 have H1 : (numnahlaw06_WettingHits.j4 kj40 t244 t245 t248 t251 t255 t260 false x17_2 x18_2) = some r := by rw [if_neg (show ¬ (false = true) by decide)] at H; exact H
                 clear H
                 have H := H1
                 clear H1
                 have H' := Aside0.mk H
                 clear H
                 go_wp2
                 repeat (go_quiet (fail); try go_wp2)
                 go_meet
                 case rel => exact ⟨_, (false), (by first | rfl | (simp; done) | (simp [*]; done)), H', ⟨by have := HJ8.out; have := HK2.out; have := HJ31.out; have := HJ40.out; first | omega | exact Nat.le_refl _⟩, ⟨by (with_reducible repeat (first | apply Kd.R_alloc | apply Kd.R_drewN | apply Kd.R_drew)); exact HO_7.out⟩, ⟨by (with_reducible repeat (first | apply Kd.R_alloc | apply Kd.R_drewN | apply Kd.R_drew)); exact HO_8.out⟩, ⟨by (with_reducible repeat (first | apply Kd.S_alloc | apply Kd.S_drewN | apply Kd.S_drew)); exact HO_9.out⟩, ⟨by (with_reducible repeat (first | apply Kd.R_alloc | apply Kd.R_drewN | apply Kd.R_drew)); exact HO_11.out⟩, ⟨by (with_reducible repeat (first | apply Kd.R_alloc | apply Kd.R_drewN | apply Kd.R_drew)); exact HO_14.out⟩, ⟨by repeat (first | (with_reducible exact HR271_0.out) | (with_reducible refine Kd.C_alloc ?_ _) | (with_reducible refine Kd.C_drewN ?_ _) | (with_reducible refine Kd.C_drew ?_) | exact HR271_0.out)⟩, ⟨by repeat (first | (with_reducible first | exact HB.out | apply below_alloc | apply pw_below_drewN | apply below_drew1) | exact HB.out)⟩⟩
               case rest =>
                clear HC45
                try clear c1
                try clear c2
                try clear p2
                try clear q2
                try clear hx2
                try clear c3
                try clear c4
                try clear c17
                try clear c17b0
                try clear c17b1
                try clear c18
                try clear c18b0
                try clear c18b1
                try clear c19
                try clear c19b0
                try clear c19b1
                try clear c20
                try clear c20b0
                try clear c20b1
                try clear c23
                try clear c26
                try clear p26
                try clear q26
                try clear hx26
                try clear c27
                try clear p27
                try clear q27
                try clear hx27
                try clear c30
                try clear c31
                try clear c31b0
                try clear c34
                try clear c34b0
                try clear c36
                try clear c37
                try clear c38
                try clear c38b0
                try clear c39
                try clear c39b0
                try clear c43
                try clear c43b0
                try clear c43b1
                try clear c44
                try clear c46
                try clear c47
                try clear c47b0
                try clear c48
                try clear c48b0
                try clear hx268_0
                try clear hx270_0
                try clear hx271_0
                try clear hx274_0
                try clear p2
                try clear p26
                try clear p268
                try clear p27
                try clear p270
                try clear p271
                try clear p274
                try clear q2
                try clear q26
                try clear q268
                try clear q27
                try clear q270
                try clear q271
                try clear q274
                obtain ⟨kq, x16_44, rfl, HA, HJ44, HO_7, HO_8, HO_9, HO_11, HO_14, HR271_0, HB⟩ := hcut
                cases kq with
                | zero => exact absurd HA.out (by simp [numnahlaw06_WettingHits.j4])
                | succ kj44 =>
                 have H := HA.out
                 clear HA
                 simp only [numnahlaw06_WettingHits.j4] at H
                 have HC51 := Aside0.mk H
                 clear H
                 go_upto_region 18 with (fail)
                 repeat (go_quiet (fail); go_upto_region 18 with (fail))
                 go_cut [17] (fun v17 wc => ∃ (kq : Nat) (x17_50 : Bool), v17 = .bool x17_50 ∧ Aside0 (numnahlaw06_WettingHits.j5 kq t244 t245 t248 t251 t255 t260 x16_44 x17_50 x18_2 = some r) ∧ Aside0 (kq ≤ kj44) ∧ Aside0 (Kd.R k48 48 wc w.heap.size (fun _ => True) (.slice Ao12 t245.length co12) t245) ∧ Aside0 (Kd.R (Kd.int .i64) 3 wc w.heap.size (fun k_ => some k_ ≠ (v258 : Value).ownBlock ∧ some k_ ≠ (v262 : Value).ownBlock) (.slice Ao14 t248.length co14) t248) ∧ Aside0 (Kd.S (Kd.slice 3 (Kd.int .i64)) 24 wc w.heap.size (fun k_ => some k_ ≠ ((.slice Ao14 t248.length co14) : Value).ownBlock ∧ some k_ ≠ (v258 : Value).ownBlock ∧ some k_ ≠ (v262 : Value).ownBlock) (.slice (some ad271) t251.length co33) t251) ∧ Aside0 (Kd.R (Kd.int .i64) 3 wc w.heap.size (fun k_ => some k_ ≠ ((.slice Ao14 t248.length co14) : Value).ownBlock ∧ some k_ ≠ (v262 : Value).ownBlock) v258 t255) ∧ Aside0 (Kd.R (Kd.int .i64) 3 wc w.heap.size (fun k_ => some k_ ≠ ((.slice Ao14 t248.length co14) : Value).ownBlock ∧ some k_ ≠ (v258 : Value).ownBlock) v262 t260) ∧ Aside0 (Kd.C (Kd.int .i64) wc A271_0 (rd_L3 t251 x18_2).length (rd_L3 t251 x18_2)) ∧ Aside0 (Below w.heap.size w wc))
                 case first =>
                  have H := HC51.out
                  clear HC51
                  by_cases c52 : x17_2 = true
                  ·subst c52
                   have H1 : (if 0 ≤ x18_2 then (if x18_2 < (t251.length : Int) then ((numnahref06_Set.f kj44 (rd_L3 t251 x18_2)).bind fun t278 => ((numnahref06_Set.f kj44 t260).bind fun t279 => (numnahlaw06_WettingHits.j5 kj44 t244 t245 t248 t251 t255 t260 x16_44 ((Go.bits .and .i64 t278 t279) != 0) x18_2))) else (none)) else (none)) = some r := by rw [if_pos rfl] at H; exact H
                   clear H
                   have H := H1
                   clear H1
                   by_cases c53 : 0 ≤ x18_2
                   ·rw [if_pos c53] at H
                    have c53b0 : decide (0 ≤ x18_2) = true := decide_eq_true c53
                    clear c53
                    (first | rw [c53b0] | (simp only [i64_w, i32_w]; rw [c53b0]) | skip)
                    by_cases c54 : x18_2 < (t251.length : Int)
                    ·rw [if_pos c54] at H
                     have c54b0 : decide (x18_2 < (t251.length : Int)) = true := decide_eq_true c54
                     clear c54
                     replace H := Option.bind_eq_some_iff.mp H
                     obtain ⟨t278, A550, H⟩ := H
                     replace H : ((numnahref06_Set.f kj44 t260).bind fun t279 => (numnahlaw06_WettingHits.j5 kj44 t244 t245 t248 t251 t255 t260 x16_44 ((Go.bits .and .i64 t278 t279) != 0) x18_2)) = some r := H
                     have A55 := Aside0.mk A550
                     clear A550
                     replace H := Option.bind_eq_some_iff.mp H
                     obtain ⟨t279, A560, H⟩ := H
                     replace H : (numnahlaw06_WettingHits.j5 kj44 t244 t245 t248 t251 t255 t260 x16_44 ((Go.bits .and .i64 t278 t279) != 0) x18_2) = some r := H
                     have A56 := Aside0.mk A560
                     clear A560
                     have H' := Aside0.mk H
                     clear H
                     have p277 : 0 ≤ (x18_2 : Int) := of_decide_eq_true (by first | (with_reducible assumption) | assumption)
                     have q277 : x18_2 < (t251.length : Int) := of_decide_eq_true (by first | (with_reducible assumption) | assumption)
                     obtain ⟨ad277, A277_0, c277_0, e277, hx277_0, hl277_0, hi277_0⟩ := at_L3 (Kd.S_reads' HO_9.out).2.2 x18_2 p277 q277
                     obtain rfl : ad271 = ad277 := (by injection e277)
                     obtain ⟨ce277, hce277, hMe277, hcc277⟩ := Kd.S_get HO_9.out [] x18_2 p277 (by first | exact q277 | exact of_decide_eq_true (by first | (with_reducible assumption) | assumption) | (have e_ := (Kd.S_reads' HO_9.out).1; omega))
                     obtain ⟨ve277_0, rfl, ge277_0⟩ := hMe277
                     have hv277_0 := hcc277 0 _ rfl
                     rw [Nat.add_zero, show ((Kd.slice 3 (Kd.int .i64))).sz = 1 from rfl, Nat.mul_one] at hv277_0
                     replace hv277_0 := Option.some.inj (hv277_0.symm.trans hx277_0)
                     rw [hv277_0] at ge277_0
                     have HL277_0 := Aside0.mk (show Kd.R (Kd.int .i64) 3 _ _ _ _ (rd_L3 t251 x18_2) from ge277_0)
                     clear hv277_0 ge277_0
                     clear hcc277 hce277
                     have HR277_0 := Aside0.mk hi277_0
                     have HC277_0 := Aside0.mk hl277_0
                     clear hi277_0 hl277_0
                     replace p277 := eq_true p277
                     replace q277 := eq_true q277
                     go_wp2_with (first | (go_at_call 32; (with_reducible refine (numnahref06_Set.calls kj44 _ _ (rd_L3 t251 x18_2) t278 _ ?side1 ?side2 A55.out).mono ?_); (case side1 => repeat (first | exact (by repeat (first | (with_reducible exact HR277_0.out) | (with_reducible refine Kd.C_alloc ?_ _) | (with_reducible refine Kd.C_drewN ?_ _) | (with_reducible refine Kd.C_drew ?_) | exact HR277_0.out)) | (with_reducible refine Kd.C_alloc ?_ _) | (with_reducible refine Kd.C_drewN ?_ _) | (with_reducible refine Kd.C_drew ?_))); (case side2 => exact HC277_0.out); rintro e w' ⟨rfl, ⟨nd, rfl⟩⟩; (try first | exact ⟨rfl, _, World.drewN_drewN _ _ _⟩ | exact ⟨rfl, _, Eq.trans (World.drewN_drewN _ _ _) (congrArg (World.drewN _) (Nat.add_assoc _ _ _))⟩); obtain ⟨Ao57, co57, eo57⟩ := Kd.R_slice HO_14.out; subst eo57) | (go_at_call 32; (with_reducible refine (numnahref06_Set.calls kj44 _ _ t260 t279 _ ?side1 ?side2 A56.out).mono ?_); (case side1 => repeat (first | exact (Kd.R_reads' HO_14.out).2.2 | (with_reducible refine Kd.C_alloc ?_ _) | (with_reducible refine Kd.C_drewN ?_ _) | (with_reducible refine Kd.C_drew ?_))); (case side2 => exact (Kd.R_reads' HO_14.out).2.1); rintro e w' ⟨rfl, ⟨nd, rfl⟩⟩; (try first | exact ⟨rfl, _, World.drewN_drewN _ _ _⟩ | exact ⟨rfl, _, Eq.trans (World.drewN_drewN _ _ _) (congrArg (World.drewN _) (Nat.add_assoc _ _ _))⟩)))
                     repeat (go_quiet (first | (go_at_call 32; (with_reducible refine (numnahref06_Set.calls kj44 _ _ (rd_L3 t251 x18_2) t278 _ ?side1 ?side2 A55.out).mono ?_); (case side1 => repeat (first | exact (by repeat (first | (with_reducible exact HR277_0.out) | (with_reducible refine Kd.C_alloc ?_ _) | (with_reducible refine Kd.C_drewN ?_ _) | (with_reducible refine Kd.C_drew ?_) | exact HR277_0.out)) | (with_reducible refine Kd.C_alloc ?_ _) | (with_reducible refine Kd.C_drewN ?_ _) | (with_reducible refine Kd.C_drew ?_))); (case side2 => exact HC277_0.out); rintro e w' ⟨rfl, ⟨nd, rfl⟩⟩; (try first | exact ⟨rfl, _, World.drewN_drewN _ _ _⟩ | exact ⟨rfl, _, Eq.trans (World.drewN_drewN _ _ _) (congrArg (World.drewN _) (Nat.add_assoc _ _ _))⟩); obtain ⟨Ao57, co57, eo57⟩ := Kd.R_slice HO_14.out; subst eo57) | (go_at_call 32; (with_reducible refine (numnahref06_Set.calls kj44 _ _ t260 t279 _ ?side1 ?side2 A56.out).mono ?_); (case side1 => repeat (first | exact (Kd.R_reads' HO_14.out).2.2 | (with_reducible refine Kd.C_alloc ?_ _) | (with_reducible refine Kd.C_drewN ?_ _) | (with_reducible refine Kd.C_drew ?_))); (case side2 => exact (Kd.R_reads' HO_14.out).2.1); rintro e w' ⟨rfl, ⟨nd, rfl⟩⟩; (try first | exact ⟨rfl, _, World.drewN_drewN _ _ _⟩ | exact ⟨rfl, _, Eq.trans (World.drewN_drewN _ _ _) (congrArg (World.drewN _) (Nat.add_assoc _ _ _))⟩))); try go_wp2_with (first | (go_at_call 32; (with_reducible refine (numnahref06_Set.calls kj44 _ _ (rd_L3 t251 x18_2) t278 _ ?side1 ?side2 A55.out).mono ?_); (case side1 => repeat (first | exact (by repeat (first | (with_reducible exact HR277_0.out) | (with_reducible refine Kd.C_alloc ?_ _) | (with_reducible refine Kd.C_drewN ?_ _) | (with_reducible refine Kd.C_drew ?_) | exact HR277_0.out)) | (with_reducible refine Kd.C_alloc ?_ _) | (with_reducible refine Kd.C_drewN ?_ _) | (with_reducible refine Kd.C_drew ?_))); (case side2 => exact HC277_0.out); rintro e w' ⟨rfl, ⟨nd, rfl⟩⟩; (try first | exact ⟨rfl, _, World.drewN_drewN _ _ _⟩ | exact ⟨rfl, _, Eq.trans (World.drewN_drewN _ _ _) (congrArg (World.drewN _) (Nat.add_assoc _ _ _))⟩); obtain ⟨Ao57, co57, eo57⟩ := Kd.R_slice HO_14.out; subst eo57) | (go_at_call 32; (with_reducible refine (numnahref06_Set.calls kj44 _ _ t260 t279 _ ?side1 ?side2 A56.out).mono ?_); (case side1 => repeat (first | exact (Kd.R_reads' HO_14.out).2.2 | (with_reducible refine Kd.C_alloc ?_ _) | (with_reducible refine Kd.C_drewN ?_ _) | (with_reducible refine Kd.C_drew ?_))); (case side2 => exact (Kd.R_reads' HO_14.out).2.1); rintro e w' ⟨rfl, ⟨nd, rfl⟩⟩; (try first | exact ⟨rfl, _, World.drewN_drewN _ _ _⟩ | exact ⟨rfl, _, Eq.trans (World.drewN_drewN _ _ _) (congrArg (World.drewN _) (Nat.add_assoc _ _ _))⟩))))
                     go_meet
                     case rel => exact ⟨_, (((Go.bits .and .i64 t278 t279) != 0)), (by first | rfl | (simp; done) | (simp [*]; done)), H', ⟨by have := HJ8.out; have := HK2.out; have := HJ31.out; have := HJ40.out; have := HJ44.out; first | omega | exact Nat.le_refl _⟩, ⟨by (with_reducible repeat (first | apply Kd.R_alloc | apply Kd.R_drewN | apply Kd.R_drew)); exact HO_7.out⟩, ⟨by (with_reducible repeat (first | apply Kd.R_alloc | apply Kd.R_drewN | apply Kd.R_drew)); exact HO_8.out⟩, ⟨by (with_reducible repeat (first | apply Kd.S_alloc | apply Kd.S_drewN | apply Kd.S_drew)); exact HO_9.out⟩, ⟨by (with_reducible repeat (first | apply Kd.R_alloc | apply Kd.R_drewN | apply Kd.R_drew)); exact HO_11.out⟩, ⟨by (with_reducible repeat (first | apply Kd.R_alloc | apply Kd.R_drewN | apply Kd.R_drew)); exact HO_14.out⟩, ⟨by repeat (first | (with_reducible exact HR271_0.out) | (with_reducible refine Kd.C_alloc ?_ _) | (with_reducible refine Kd.C_drewN ?_ _) | (with_reducible refine Kd.C_drew ?_) | exact HR271_0.out)⟩, ⟨by repeat (first | (with_reducible first | exact HB.out | apply below_alloc | apply pw_below_drewN | apply below_drew1) | exact HB.out)⟩⟩
                    ·rw [if_neg c54] at H
                     exact absurd H (by simp)
                   ·rw [if_neg c53] at H
                    exact absurd H (by simp)
                  ·replace c52 := Bool.eq_false_iff.mpr c52
                   subst c52
                   have H1 : (numnahlaw06_WettingHits.j5 kj44 t244 t245 t248 t251 t255 t260 x16_44 false x18_2) = some r := by rw [if_neg (show ¬ (false = true) by decide)] at H; exact H
                   clear H
                   have H := H1
                   clear H1
                   have H' := Aside0.mk H
                   clear H
                   go_wp2
                   repeat (go_quiet (fail); try go_wp2)
                   go_meet
                   case rel => exact ⟨_, (false), (by first | rfl | (simp; done) | (simp [*]; done)), H', ⟨by have := HJ8.out; have := HK2.out; have := HJ31.out; have := HJ40.out; have := HJ44.out; first | omega | exact Nat.le_refl _⟩, ⟨by (with_reducible repeat (first | apply Kd.R_alloc | apply Kd.R_drewN | apply Kd.R_drew)); exact HO_7.out⟩, ⟨by (with_reducible repeat (first | apply Kd.R_alloc | apply Kd.R_drewN | apply Kd.R_drew)); exact HO_8.out⟩, ⟨by (with_reducible repeat (first | apply Kd.S_alloc | apply Kd.S_drewN | apply Kd.S_drew)); exact HO_9.out⟩, ⟨by (with_reducible repeat (first | apply Kd.R_alloc | apply Kd.R_drewN | apply Kd.R_drew)); exact HO_11.out⟩, ⟨by (with_reducible repeat (first | apply Kd.R_alloc | apply Kd.R_drewN | apply Kd.R_drew)); exact HO_14.out⟩, ⟨by repeat (first | (with_reducible exact HR271_0.out) | (with_reducible refine Kd.C_alloc ?_ _) | (with_reducible refine Kd.C_drewN ?_ _) | (with_reducible refine Kd.C_drew ?_) | exact HR271_0.out)⟩, ⟨by repeat (first | (with_reducible first | exact HB.out | apply below_alloc | apply pw_below_drewN | apply below_drew1) | exact HB.out)⟩⟩
                 case rest =>
                  clear HC51
                  try clear c1
                  try clear c2
                  try clear p2
                  try clear q2
                  try clear hx2
                  try clear c3
                  try clear c4
                  try clear c5
                  try clear c17
                  try clear c17b0
                  try clear c17b1
                  try clear c18
                  try clear c18b0
                  try clear c18b1
                  try clear c19
                  try clear c19b0
                  try clear c19b1
                  try clear c20
                  try clear c20b0
                  try clear c20b1
                  try clear c23
                  try clear c26
                  try clear p26
                  try clear q26
                  try clear hx26
                  try clear c27
                  try clear p27
                  try clear q27
                  try clear hx27
                  try clear c30
                  try clear c31
                  try clear c31b0
                  try clear c34
                  try clear c34b0
                  try clear c36
                  try clear c37
                  try clear c38
                  try clear c38b0
                  try clear c39
                  try clear c39b0
                  try clear c43
                  try clear c43b0
                  try clear c43b1
                  try clear c44
                  try clear c46
                  try clear c47
                  try clear c47b0
                  try clear c48
                  try clear c48b0
                  try clear c52
                  try clear c53
                  try clear c53b0
                  try clear c54
                  try clear c54b0
                  try clear hx268_0
                  try clear hx270_0
                  try clear hx271_0
                  try clear hx274_0
                  try clear hx277_0
                  try clear p2
                  try clear p26
                  try clear p268
                  try clear p27
                  try clear p270
                  try clear p271
                  try clear p274
                  try clear p277
                  try clear q2
                  try clear q26
                  try clear q268
                  try clear q27
                  try clear q270
                  try clear q271
                  try clear q274
                  try clear q277
                  obtain ⟨kq, x17_50, rfl, HA, HJ50, HO_7, HO_8, HO_9, HO_11, HO_14, HR271_0, HB⟩ := hcut
                  cases kq with
                  | zero => exact absurd HA.out (by simp [numnahlaw06_WettingHits.j5])
                  | succ kj50 =>
                   have H := HA.out
                   clear HA
                   simp only [numnahlaw06_WettingHits.j5] at H
                   have H' := Aside0.mk H
                   clear H
                   go_wp2
                   repeat (go_quiet (fail); try go_wp2)
                   go_loopg [21] kj50 (fun kq v21 w' => ∃ (x21_7 : Int), v21 = .int .i64 x21_7 ∧ Aside0 (numnahlaw06_WettingHits.l1 kq t244 t245 t248 t251 t255 t260 x16_44 x17_50 x18_2 x21_7 = some r) ∧ Aside0 (kq ≤ kj50) ∧ Aside0 (Kd.R k48 48 w' w.heap.size (fun _ => True) (.slice Ao12 t245.length co12) t245) ∧ Aside0 (Kd.R (Kd.int .i64) 3 w' w.heap.size (fun k_ => some k_ ≠ (v258 : Value).ownBlock ∧ some k_ ≠ (v262 : Value).ownBlock) (.slice Ao14 t248.length co14) t248) ∧ Aside0 (Kd.S (Kd.slice 3 (Kd.int .i64)) 24 w' w.heap.size (fun k_ => some k_ ≠ ((.slice Ao14 t248.length co14) : Value).ownBlock ∧ some k_ ≠ (v258 : Value).ownBlock ∧ some k_ ≠ (v262 : Value).ownBlock) (.slice (some ad271) t251.length co33) t251) ∧ Aside0 (Kd.R (Kd.int .i64) 3 w' w.heap.size (fun k_ => some k_ ≠ ((.slice Ao14 t248.length co14) : Value).ownBlock ∧ some k_ ≠ (v262 : Value).ownBlock) v258 t255) ∧ Aside0 (Kd.R (Kd.int .i64) 3 w' w.heap.size (fun k_ => some k_ ≠ ((.slice Ao14 t248.length co14) : Value).ownBlock ∧ some k_ ≠ (v258 : Value).ownBlock) v262 t260) ∧ Aside0 (Kd.C (Kd.int .i64) w' A271_0 (rd_L3 t251 x18_2).length (rd_L3 t251 x18_2)) ∧ Aside0 (Below w.heap.size w w'))
                   case atStart => exact ⟨(0), (by first | rfl | (simp; done) | (simp [*]; done)), H', ⟨Nat.le_refl _⟩, ⟨by (with_reducible repeat (first | apply Kd.R_alloc | apply Kd.R_drewN | apply Kd.R_drew)); exact HO_7.out⟩, ⟨by (with_reducible repeat (first | apply Kd.R_alloc | apply Kd.R_drewN | apply Kd.R_drew)); exact HO_8.out⟩, ⟨by (with_reducible repeat (first | apply Kd.S_alloc | apply Kd.S_drewN | apply Kd.S_drew)); exact HO_9.out⟩, ⟨by (with_reducible repeat (first | apply Kd.R_alloc | apply Kd.R_drewN | apply Kd.R_drew)); exact HO_11.out⟩, ⟨by (with_reducible repeat (first | apply Kd.R_alloc | apply Kd.R_drewN | apply Kd.R_drew)); exact HO_14.out⟩, ⟨by repeat (first | (with_reducible exact HR271_0.out) | (with_reducible refine Kd.C_alloc ?_ _) | (with_reducible refine Kd.C_drewN ?_ _) | (with_reducible refine Kd.C_drew ?_) | exact HR271_0.out)⟩, ⟨by repeat (first | (with_reducible first | exact HB.out | apply below_alloc | apply pw_below_drewN | apply below_drew1) | exact HB.out)⟩⟩
                   case round =>
                    clear H'
                    try clear c1
                    try clear c2
                    try clear p2
                    try clear q2
                    try clear hx2
                    try clear c3
                    try clear c4
                    try clear c5
                    try clear c17
                    try clear c17b0
                    try clear c17b1
                    try clear c18
                    try clear c18b0
                    try clear c18b1
                    try clear c19
                    try clear c19b0
                    try clear c19b1
                    try clear c20
                    try clear c20b0
                    try clear c20b1
                    try clear c23
                    try clear c26
                    try clear p26
                    try clear q26
                    try clear hx26
                    try clear c27
                    try clear p27
                    try clear q27
                    try clear hx27
                    try clear c30
                    try clear c31
                    try clear c31b0
                    try clear c34
                    try clear c34b0
                    try clear c36
                    try clear c37
                    try clear c38
                    try clear c38b0
                    try clear c39
                    try clear c39b0
                    try clear c43
                    try clear c43b0
                    try clear c43b1
                    try clear c44
                    try clear c46
                    try clear c47
                    try clear c47b0
                    try clear c48
                    try clear c48b0
                    try clear c52
                    try clear c53
                    try clear c53b0
                    try clear c54
                    try clear c54b0
                    try clear hx268_0
                    try clear hx270_0
                    try clear hx271_0
                    try clear hx274_0
                    try clear hx277_0
                    try clear p2
                    try clear p26
                    try clear p268
                    try clear p27
                    try clear p270
                    try clear p271
                    try clear p274
                    try clear p277
                    try clear q2
                    try clear q26
                    try clear q268
                    try clear q27
                    try clear q270
                    try clear q271
                    try clear q274
                    try clear q277
                    obtain ⟨x21_7, rfl, HA, HK7, HO_7, HO_8, HO_9, HO_11, HO_14, HR271_0, HB⟩ := hrel
                    cases gk with
                    | zero => exact absurd HA.out (by simp [numnahlaw06_WettingHits.l1])
                    | succ k7 =>
                     have H := HA.out
                     clear HA
                     simp only [numnahlaw06_WettingHits.l1] at H
                     by_cases c58 : x21_7 < x18_2
                     ·rw [if_pos c58] at H
                      have c58b0 : decide (x21_7 < x18_2) = true := decide_eq_true c58
                      clear c58
                      by_cases c59 : 0 ≤ x21_7
                      ·rw [if_pos c59] at H
                       have c59b0 : decide (0 ≤ x21_7) = true := decide_eq_true c59
                       clear c59
                       by_cases c60 : x21_7 < (t251.length : Int)
                       ·rw [if_pos c60] at H
                        have c60b0 : decide (x21_7 < (t251.length : Int)) = true := decide_eq_true c60
                        clear c60
                        replace H := Option.bind_eq_some_iff.mp H
                        obtain ⟨t281, A610, H⟩ := H
                        replace H : (if 0 ≤ x18_2 then (if x18_2 < (t251.length : Int) then ((numnahref06_Set.f k7 (rd_L3 t251 x18_2)).bind fun t283 => (if (Go.bits .andNot .i64 t281 t283) = 0 then (some false) else (numnahlaw06_WettingHits.l1 k7 t244 t245 t248 t251 t255 t260 x16_44 x17_50 x18_2 (wrap64 (x21_7 + 1))))) else (none)) else (none)) = some r := H
                        have A61 := Aside0.mk A610
                        clear A610
                        by_cases c62 : 0 ≤ x18_2
                        ·rw [if_pos c62] at H
                         have c62b0 : decide (0 ≤ x18_2) = true := decide_eq_true c62
                         clear c62
                         by_cases c63 : x18_2 < (t251.length : Int)
                         ·rw [if_pos c63] at H
                          have c63b0 : decide (x18_2 < (t251.length : Int)) = true := decide_eq_true c63
                          clear c63
                          replace H := Option.bind_eq_some_iff.mp H
                          obtain ⟨t283, A640, H⟩ := H
                          replace H : (if (Go.bits .andNot .i64 t281 t283) = 0 then (some false) else (numnahlaw06_WettingHits.l1 k7 t244 t245 t248 t251 t255 t260 x16_44 x17_50 x18_2 (wrap64 (x21_7 + 1)))) = some r := H
                          have A64 := Aside0.mk A640
                          clear A640
                          by_cases c65 : (Go.bits .andNot .i64 t281 t283) = 0
                          ·rw [if_pos c65] at H
                           have c65b0 : ((Go.bits .andNot .i64 t281 t283) == 0) = true := beq_iff_eq.mpr c65
                           have c65b1 : ((Go.bits .andNot .i64 t281 t283) != 0) = false := bne_eq_false_iff_eq.mpr c65
                           clear c65
                           obtain rfl := Option.some.inj H
                           have p280 : 0 ≤ (x21_7 : Int) := of_decide_eq_true (by first | (with_reducible assumption) | assumption)
                           have q280 : x21_7 < (t251.length : Int) := of_decide_eq_true (by first | (with_reducible assumption) | assumption)
                           obtain ⟨ad280, A280_0, c280_0, e280, hx280_0, hl280_0, hi280_0⟩ := at_L3 (Kd.S_reads' HO_9.out).2.2 x21_7 p280 q280
                           obtain rfl : ad271 = ad280 := (by injection e280)
                           obtain ⟨ce280, hce280, hMe280, hcc280⟩ := Kd.S_get HO_9.out [] x21_7 p280 (by first | exact q280 | exact of_decide_eq_true (by first | (with_reducible assumption) | assumption) | (have e_ := (Kd.S_reads' HO_9.out).1; omega))
                           obtain ⟨ve280_0, rfl, ge280_0⟩ := hMe280
                           have hv280_0 := hcc280 0 _ rfl
                           rw [Nat.add_zero, show ((Kd.slice 3 (Kd.int .i64))).sz = 1 from rfl, Nat.mul_one] at hv280_0
                           replace hv280_0 := Option.some.inj (hv280_0.symm.trans hx280_0)
                           rw [hv280_0] at ge280_0
                           have HL280_0 := Aside0.mk (show Kd.R (Kd.int .i64) 3 _ _ _ _ (rd_L3 t251 x21_7) from ge280_0)
                           clear hv280_0 ge280_0
                           clear hcc280 hce280
                           have HR280_0 := Aside0.mk hi280_0
                           have HC280_0 := Aside0.mk hl280_0
                           clear hi280_0 hl280_0
                           replace p280 := eq_true p280
                           replace q280 := eq_true q280
                           go_wp2_with (first | (go_at_call 32; (with_reducible refine (numnahref06_Set.calls k7 _ _ (rd_L3 t251 x21_7) t281 _ ?side1 ?side2 A61.out).mono ?_); (case side1 => repeat (first | exact (by repeat (first | (with_reducible exact HR280_0.out) | (with_reducible refine Kd.C_alloc ?_ _) | (with_reducible refine Kd.C_drewN ?_ _) | (with_reducible refine Kd.C_drew ?_) | exact HR280_0.out)) | (with_reducible refine Kd.C_alloc ?_ _) | (with_reducible refine Kd.C_drewN ?_ _) | (with_reducible refine Kd.C_drew ?_))); (case side2 => exact HC280_0.out); rintro e w' ⟨rfl, ⟨nd, rfl⟩⟩; (try first | exact ⟨rfl, _, World.drewN_drewN _ _ _⟩ | exact ⟨rfl, _, Eq.trans (World.drewN_drewN _ _ _) (congrArg (World.drewN _) (Nat.add_assoc _ _ _))⟩); have p282 : 0 ≤ (x18_2 : Int) := of_decide_eq_true (by first | (with_reducible assumption) | assumption); have q282 : x18_2 < (t251.length : Int) := of_decide_eq_true (by first | (with_reducible assumption) | assumption); obtain ⟨ad282, A282_0, c282_0, e282, hx282_0, hl282_0, hi282_0⟩ := at_L3 (Kd.S_reads' HO_9.out).2.2 x18_2 p282 q282; obtain rfl : ad271 = ad282 := (by injection e282); obtain ⟨ce282, hce282, hMe282, hcc282⟩ := Kd.S_get HO_9.out [] x18_2 p282 (by first | exact q282 | exact of_decide_eq_true (by first | (with_reducible assumption) | assumption) | (have e_ := (Kd.S_reads' HO_9.out).1; omega)); obtain ⟨ve282_0, rfl, ge282_0⟩ := hMe282; have hv282_0 := hcc282 0 _ rfl; rw [Nat.add_zero, show ((Kd.slice 3 (Kd.int .i64))).sz = 1 from rfl, Nat.mul_one] at hv282_0; replace hv282_0 := Option.some.inj (hv282_0.symm.trans hx282_0); rw [hv282_0] at ge282_0; have HL282_0 := Aside0.mk (show Kd.R (Kd.int .i64) 3 _ _ _ _ (rd_L3 t251 x18_2) from ge282_0); clear hv282_0 ge282_0; clear hcc282 hce282; have HR282_0 := Aside0.mk hi282_0; have HC282_0 := Aside0.mk hl282_0; clear hi282_0 hl282_0; replace p282 := eq_true p282; replace q282 := eq_true q282) | (go_at_call 32; (with_reducible refine (numnahref06_Set.calls k7 _ _ (rd_L3 t251 x18_2) t283 _ ?side1 ?side2 A64.out).mono ?_); (case side1 => repeat (first | exact (by repeat (first | (with_reducible exact HR282_0.out) | (with_reducible refine Kd.C_alloc ?_ _) | (with_reducible refine Kd.C_drewN ?_ _) | (with_reducible refine Kd.C_drew ?_) | exact HR282_0.out)) | (with_reducible refine Kd.C_alloc ?_ _) | (with_reducible refine Kd.C_drewN ?_ _) | (with_reducible refine Kd.C_drew ?_))); (case side2 => exact HC282_0.out); rintro e w' ⟨rfl, ⟨nd, rfl⟩⟩; (try first | exact ⟨rfl, _, World.drewN_drewN _ _ _⟩ | exact ⟨rfl, _, Eq.trans (World.drewN_drewN _ _ _) (congrArg (World.drewN _) (Nat.add_assoc _ _ _))⟩)))
                           repeat (go_quiet (first | (go_at_call 32; (with_reducible refine (numnahref06_Set.calls k7 _ _ (rd_L3 t251 x21_7) t281 _ ?side1 ?side2 A61.out).mono ?_); (case side1 => repeat (first | exact (by repeat (first | (with_reducible exact HR280_0.out) | (with_reducible refine Kd.C_alloc ?_ _) | (with_reducible refine Kd.C_drewN ?_ _) | (with_reducible refine Kd.C_drew ?_) | exact HR280_0.out)) | (with_reducible refine Kd.C_alloc ?_ _) | (with_reducible refine Kd.C_drewN ?_ _) | (with_reducible refine Kd.C_drew ?_))); (case side2 => exact HC280_0.out); rintro e w' ⟨rfl, ⟨nd, rfl⟩⟩; (try first | exact ⟨rfl, _, World.drewN_drewN _ _ _⟩ | exact ⟨rfl, _, Eq.trans (World.drewN_drewN _ _ _) (congrArg (World.drewN _) (Nat.add_assoc _ _ _))⟩); have p282 : 0 ≤ (x18_2 : Int) := of_decide_eq_true (by first | (with_reducible assumption) | assumption); have q282 : x18_2 < (t251.length : Int) := of_decide_eq_true (by first | (with_reducible assumption) | assumption); obtain ⟨ad282, A282_0, c282_0, e282, hx282_0, hl282_0, hi282_0⟩ := at_L3 (Kd.S_reads' HO_9.out).2.2 x18_2 p282 q282; obtain rfl : ad271 = ad282 := (by injection e282); obtain ⟨ce282, hce282, hMe282, hcc282⟩ := Kd.S_get HO_9.out [] x18_2 p282 (by first | exact q282 | exact of_decide_eq_true (by first | (with_reducible assumption) | assumption) | (have e_ := (Kd.S_reads' HO_9.out).1; omega)); obtain ⟨ve282_0, rfl, ge282_0⟩ := hMe282; have hv282_0 := hcc282 0 _ rfl; rw [Nat.add_zero, show ((Kd.slice 3 (Kd.int .i64))).sz = 1 from rfl, Nat.mul_one] at hv282_0; replace hv282_0 := Option.some.inj (hv282_0.symm.trans hx282_0); rw [hv282_0] at ge282_0; have HL282_0 := Aside0.mk (show Kd.R (Kd.int .i64) 3 _ _ _ _ (rd_L3 t251 x18_2) from ge282_0); clear hv282_0 ge282_0; clear hcc282 hce282; have HR282_0 := Aside0.mk hi282_0; have HC282_0 := Aside0.mk hl282_0; clear hi282_0 hl282_0; replace p282 := eq_true p282; replace q282 := eq_true q282) | (go_at_call 32; (with_reducible refine (numnahref06_Set.calls k7 _ _ (rd_L3 t251 x18_2) t283 _ ?side1 ?side2 A64.out).mono ?_); (case side1 => repeat (first | exact (by repeat (first | (with_reducible exact HR282_0.out) | (with_reducible refine Kd.C_alloc ?_ _) | (with_reducible refine Kd.C_drewN ?_ _) | (with_reducible refine Kd.C_drew ?_) | exact HR282_0.out)) | (with_reducible refine Kd.C_alloc ?_ _) | (with_reducible refine Kd.C_drewN ?_ _) | (with_reducible refine Kd.C_drew ?_))); (case side2 => exact HC282_0.out); rintro e w' ⟨rfl, ⟨nd, rfl⟩⟩; (try first | exact ⟨rfl, _, World.drewN_drewN _ _ _⟩ | exact ⟨rfl, _, Eq.trans (World.drewN_drewN _ _ _) (congrArg (World.drewN _) (Nat.add_assoc _ _ _))⟩))); try go_wp2_with (first | (go_at_call 32; (with_reducible refine (numnahref06_Set.calls k7 _ _ (rd_L3 t251 x21_7) t281 _ ?side1 ?side2 A61.out).mono ?_); (case side1 => repeat (first | exact (by repeat (first | (with_reducible exact HR280_0.out) | (with_reducible refine Kd.C_alloc ?_ _) | (with_reducible refine Kd.C_drewN ?_ _) | (with_reducible refine Kd.C_drew ?_) | exact HR280_0.out)) | (with_reducible refine Kd.C_alloc ?_ _) | (with_reducible refine Kd.C_drewN ?_ _) | (with_reducible refine Kd.C_drew ?_))); (case side2 => exact HC280_0.out); rintro e w' ⟨rfl, ⟨nd, rfl⟩⟩; (try first | exact ⟨rfl, _, World.drewN_drewN _ _ _⟩ | exact ⟨rfl, _, Eq.trans (World.drewN_drewN _ _ _) (congrArg (World.drewN _) (Nat.add_assoc _ _ _))⟩); have p282 : 0 ≤ (x18_2 : Int) := of_decide_eq_true (by first | (with_reducible assumption) | assumption); have q282 : x18_2 < (t251.length : Int) := of_decide_eq_true (by first | (with_reducible assumption) | assumption); obtain ⟨ad282, A282_0, c282_0, e282, hx282_0, hl282_0, hi282_0⟩ := at_L3 (Kd.S_reads' HO_9.out).2.2 x18_2 p282 q282; obtain rfl : ad271 = ad282 := (by injection e282); obtain ⟨ce282, hce282, hMe282, hcc282⟩ := Kd.S_get HO_9.out [] x18_2 p282 (by first | exact q282 | exact of_decide_eq_true (by first | (with_reducible assumption) | assumption) | (have e_ := (Kd.S_reads' HO_9.out).1; omega)); obtain ⟨ve282_0, rfl, ge282_0⟩ := hMe282; have hv282_0 := hcc282 0 _ rfl; rw [Nat.add_zero, show ((Kd.slice 3 (Kd.int .i64))).sz = 1 from rfl, Nat.mul_one] at hv282_0; replace hv282_0 := Option.some.inj (hv282_0.symm.trans hx282_0); rw [hv282_0] at ge282_0; have HL282_0 := Aside0.mk (show Kd.R (Kd.int .i64) 3 _ _ _ _ (rd_L3 t251 x18_2) from ge282_0); clear hv282_0 ge282_0; clear hcc282 hce282; have HR282_0 := Aside0.mk hi282_0; have HC282_0 := Aside0.mk hl282_0; clear hi282_0 hl282_0; replace p282 := eq_true p282; replace q282 := eq_true q282) | (go_at_call 32; (with_reducible refine (numnahref06_Set.calls k7 _ _ (rd_L3 t251 x18_2) t283 _ ?side1 ?side2 A64.out).mono ?_); (case side1 => repeat (first | exact (by repeat (first | (with_reducible exact HR282_0.out) | (with_reducible refine Kd.C_alloc ?_ _) | (with_reducible refine Kd.C_drewN ?_ _) | (with_reducible refine Kd.C_drew ?_) | exact HR282_0.out)) | (with_reducible refine Kd.C_alloc ?_ _) | (with_reducible refine Kd.C_drewN ?_ _) | (with_reducible refine Kd.C_drew ?_))); (case side2 => exact HC282_0.out); rintro e w' ⟨rfl, ⟨nd, rfl⟩⟩; (try first | exact ⟨rfl, _, World.drewN_drewN _ _ _⟩ | exact ⟨rfl, _, Eq.trans (World.drewN_drewN _ _ _) (congrArg (World.drewN _) (Nat.add_assoc _ _ _))⟩))))
                           go_ret
                           exact ⟨by first | rfl | (simp [errW_none, errW_some] <;> rfl) | (simp [*, errW_none, errW_some] <;> rfl), by repeat (first | (with_reducible first | exact HB.out | apply below_alloc | apply pw_below_drewN | apply below_drew1) | exact HB.out)⟩
                          ·rw [if_neg c65] at H
                           have c65b0 : ((Go.bits .andNot .i64 t281 t283) == 0) = false := beq_eq_false_iff_ne.mpr c65
                           have c65b1 : ((Go.bits .andNot .i64 t281 t283) != 0) = true := bne_iff_ne.mpr c65
                           have H' := Aside0.mk H
                           clear H
                           have p280 : 0 ≤ (x21_7 : Int) := of_decide_eq_true (by first | (with_reducible assumption) | assumption)
                           have q280 : x21_7 < (t251.length : Int) := of_decide_eq_true (by first | (with_reducible assumption) | assumption)
                           obtain ⟨ad280, A280_0, c280_0, e280, hx280_0, hl280_0, hi280_0⟩ := at_L3 (Kd.S_reads' HO_9.out).2.2 x21_7 p280 q280
                           obtain rfl : ad271 = ad280 := (by injection e280)
                           obtain ⟨ce280, hce280, hMe280, hcc280⟩ := Kd.S_get HO_9.out [] x21_7 p280 (by first | exact q280 | exact of_decide_eq_true (by first | (with_reducible assumption) | assumption) | (have e_ := (Kd.S_reads' HO_9.out).1; omega))
                           obtain ⟨ve280_0, rfl, ge280_0⟩ := hMe280
                           have hv280_0 := hcc280 0 _ rfl
                           rw [Nat.add_zero, show ((Kd.slice 3 (Kd.int .i64))).sz = 1 from rfl, Nat.mul_one] at hv280_0
                           replace hv280_0 := Option.some.inj (hv280_0.symm.trans hx280_0)
                           rw [hv280_0] at ge280_0
                           have HL280_0 := Aside0.mk (show Kd.R (Kd.int .i64) 3 _ _ _ _ (rd_L3 t251 x21_7) from ge280_0)
                           clear hv280_0 ge280_0
                           clear hcc280 hce280
                           have HR280_0 := Aside0.mk hi280_0
                           have HC280_0 := Aside0.mk hl280_0
                           clear hi280_0 hl280_0
                           replace p280 := eq_true p280
                           replace q280 := eq_true q280
                           go_wp2_with (first | (go_at_call 32; (with_reducible refine (numnahref06_Set.calls k7 _ _ (rd_L3 t251 x21_7) t281 _ ?side1 ?side2 A61.out).mono ?_); (case side1 => repeat (first | exact (by repeat (first | (with_reducible exact HR280_0.out) | (with_reducible refine Kd.C_alloc ?_ _) | (with_reducible refine Kd.C_drewN ?_ _) | (with_reducible refine Kd.C_drew ?_) | exact HR280_0.out)) | (with_reducible refine Kd.C_alloc ?_ _) | (with_reducible refine Kd.C_drewN ?_ _) | (with_reducible refine Kd.C_drew ?_))); (case side2 => exact HC280_0.out); rintro e w' ⟨rfl, ⟨nd, rfl⟩⟩; (try first | exact ⟨rfl, _, World.drewN_drewN _ _ _⟩ | exact ⟨rfl, _, Eq.trans (World.drewN_drewN _ _ _) (congrArg (World.drewN _) (Nat.add_assoc _ _ _))⟩); have p282 : 0 ≤ (x18_2 : Int) := of_decide_eq_true (by first | (with_reducible assumption) | assumption); have q282 : x18_2 < (t251.length : Int) := of_decide_eq_true (by first | (with_reducible assumption) | assumption); obtain ⟨ad282, A282_0, c282_0, e282, hx282_0, hl282_0, hi282_0⟩ := at_L3 (Kd.S_reads' HO_9.out).2.2 x18_2 p282 q282; obtain rfl : ad271 = ad282 := (by injection e282); obtain ⟨ce282, hce282, hMe282, hcc282⟩ := Kd.S_get HO_9.out [] x18_2 p282 (by first | exact q282 | exact of_decide_eq_true (by first | (with_reducible assumption) | assumption) | (have e_ := (Kd.S_reads' HO_9.out).1; omega)); obtain ⟨ve282_0, rfl, ge282_0⟩ := hMe282; have hv282_0 := hcc282 0 _ rfl; rw [Nat.add_zero, show ((Kd.slice 3 (Kd.int .i64))).sz = 1 from rfl, Nat.mul_one] at hv282_0; replace hv282_0 := Option.some.inj (hv282_0.symm.trans hx282_0); rw [hv282_0] at ge282_0; have HL282_0 := Aside0.mk (show Kd.R (Kd.int .i64) 3 _ _ _ _ (rd_L3 t251 x18_2) from ge282_0); clear hv282_0 ge282_0; clear hcc282 hce282; have HR282_0 := Aside0.mk hi282_0; have HC282_0 := Aside0.mk hl282_0; clear hi282_0 hl282_0; replace p282 := eq_true p282; replace q282 := eq_true q282) | (go_at_call 32; (with_reducible refine (numnahref06_Set.calls k7 _ _ (rd_L3 t251 x18_2) t283 _ ?side1 ?side2 A64.out).mono ?_); (case side1 => repeat (first | exact (by repeat (first | (with_reducible exact HR282_0.out) | (with_reducible refine Kd.C_alloc ?_ _) | (with_reducible refine Kd.C_drewN ?_ _) | (with_reducible refine Kd.C_drew ?_) | exact HR282_0.out)) | (with_reducible refine Kd.C_alloc ?_ _) | (with_reducible refine Kd.C_drewN ?_ _) | (with_reducible refine Kd.C_drew ?_))); (case side2 => exact HC282_0.out); rintro e w' ⟨rfl, ⟨nd, rfl⟩⟩; (try first | exact ⟨rfl, _, World.drewN_drewN _ _ _⟩ | exact ⟨rfl, _, Eq.trans (World.drewN_drewN _ _ _) (congrArg (World.drewN _) (Nat.add_assoc _ _ _))⟩)))
                           repeat (go_quiet (first | (go_at_call 32; (with_reducible refine (numnahref06_Set.calls k7 _ _ (rd_L3 t251 x21_7) t281 _ ?side1 ?side2 A61.out).mono ?_); (case side1 => repeat (first | exact (by repeat (first | (with_reducible exact HR280_0.out) | (with_reducible refine Kd.C_alloc ?_ _) | (with_reducible refine Kd.C_drewN ?_ _) | (with_reducible refine Kd.C_drew ?_) | exact HR280_0.out)) | (with_reducible refine Kd.C_alloc ?_ _) | (with_reducible refine Kd.C_drewN ?_ _) | (with_reducible refine Kd.C_drew ?_))); (case side2 => exact HC280_0.out); rintro e w' ⟨rfl, ⟨nd, rfl⟩⟩; (try first | exact ⟨rfl, _, World.drewN_drewN _ _ _⟩ | exact ⟨rfl, _, Eq.trans (World.drewN_drewN _ _ _) (congrArg (World.drewN _) (Nat.add_assoc _ _ _))⟩); have p282 : 0 ≤ (x18_2 : Int) := of_decide_eq_true (by first | (with_reducible assumption) | assumption); have q282 : x18_2 < (t251.length : Int) := of_decide_eq_true (by first | (with_reducible assumption) | assumption); obtain ⟨ad282, A282_0, c282_0, e282, hx282_0, hl282_0, hi282_0⟩ := at_L3 (Kd.S_reads' HO_9.out).2.2 x18_2 p282 q282; obtain rfl : ad271 = ad282 := (by injection e282); obtain ⟨ce282, hce282, hMe282, hcc282⟩ := Kd.S_get HO_9.out [] x18_2 p282 (by first | exact q282 | exact of_decide_eq_true (by first | (with_reducible assumption) | assumption) | (have e_ := (Kd.S_reads' HO_9.out).1; omega)); obtain ⟨ve282_0, rfl, ge282_0⟩ := hMe282; have hv282_0 := hcc282 0 _ rfl; rw [Nat.add_zero, show ((Kd.slice 3 (Kd.int .i64))).sz = 1 from rfl, Nat.mul_one] at hv282_0; replace hv282_0 := Option.some.inj (hv282_0.symm.trans hx282_0); rw [hv282_0] at ge282_0; have HL282_0 := Aside0.mk (show Kd.R (Kd.int .i64) 3 _ _ _ _ (rd_L3 t251 x18_2) from ge282_0); clear hv282_0 ge282_0; clear hcc282 hce282; have HR282_0 := Aside0.mk hi282_0; have HC282_0 := Aside0.mk hl282_0; clear hi282_0 hl282_0; replace p282 := eq_true p282; replace q282 := eq_true q282) | (go_at_call 32; (with_reducible refine (numnahref06_Set.calls k7 _ _ (rd_L3 t251 x18_2) t283 _ ?side1 ?side2 A64.out).mono ?_); (case side1 => repeat (first | exact (by repeat (first | (with_reducible exact HR282_0.out) | (with_reducible refine Kd.C_alloc ?_ _) | (with_reducible refine Kd.C_drewN ?_ _) | (with_reducible refine Kd.C_drew ?_) | exact HR282_0.out)) | (with_reducible refine Kd.C_alloc ?_ _) | (with_reducible refine Kd.C_drewN ?_ _) | (with_reducible refine Kd.C_drew ?_))); (case side2 => exact HC282_0.out); rintro e w' ⟨rfl, ⟨nd, rfl⟩⟩; (try first | exact ⟨rfl, _, World.drewN_drewN _ _ _⟩ | exact ⟨rfl, _, Eq.trans (World.drewN_drewN _ _ _) (congrArg (World.drewN _) (Nat.add_assoc _ _ _))⟩))); try go_wp2_with (first | (go_at_call 32; (with_reducible refine (numnahref06_Set.calls k7 _ _ (rd_L3 t251 x21_7) t281 _ ?side1 ?side2 A61.out).mono ?_); (case side1 => repeat (first | exact (by repeat (first | (with_reducible exact HR280_0.out) | (with_reducible refine Kd.C_alloc ?_ _) | (with_reducible refine Kd.C_drewN ?_ _) | (with_reducible refine Kd.C_drew ?_) | exact HR280_0.out)) | (with_reducible refine Kd.C_alloc ?_ _) | (with_reducible refine Kd.C_drewN ?_ _) | (with_reducible refine Kd.C_drew ?_))); (case side2 => exact HC280_0.out); rintro e w' ⟨rfl, ⟨nd, rfl⟩⟩; (try first | exact ⟨rfl, _, World.drewN_drewN _ _ _⟩ | exact ⟨rfl, _, Eq.trans (World.drewN_drewN _ _ _) (congrArg (World.drewN _) (Nat.add_assoc _ _ _))⟩); have p282 : 0 ≤ (x18_2 : Int) := of_decide_eq_true (by first | (with_reducible assumption) | assumption); have q282 : x18_2 < (t251.length : Int) := of_decide_eq_true (by first | (with_reducible assumption) | assumption); obtain ⟨ad282, A282_0, c282_0, e282, hx282_0, hl282_0, hi282_0⟩ := at_L3 (Kd.S_reads' HO_9.out).2.2 x18_2 p282 q282; obtain rfl : ad271 = ad282 := (by injection e282); obtain ⟨ce282, hce282, hMe282, hcc282⟩ := Kd.S_get HO_9.out [] x18_2 p282 (by first | exact q282 | exact of_decide_eq_true (by first | (with_reducible assumption) | assumption) | (have e_ := (Kd.S_reads' HO_9.out).1; omega)); obtain ⟨ve282_0, rfl, ge282_0⟩ := hMe282; have hv282_0 := hcc282 0 _ rfl; rw [Nat.add_zero, show ((Kd.slice 3 (Kd.int .i64))).sz = 1 from rfl, Nat.mul_one] at hv282_0; replace hv282_0 := Option.some.inj (hv282_0.symm.trans hx282_0); rw [hv282_0] at ge282_0; have HL282_0 := Aside0.mk (show Kd.R (Kd.int .i64) 3 _ _ _ _ (rd_L3 t251 x18_2) from ge282_0); clear hv282_0 ge282_0; clear hcc282 hce282; have HR282_0 := Aside0.mk hi282_0; have HC282_0 := Aside0.mk hl282_0; clear hi282_0 hl282_0; replace p282 := eq_true p282; replace q282 := eq_true q282) | (go_at_call 32; (with_reducible refine (numnahref06_Set.calls k7 _ _ (rd_L3 t251 x18_2) t283 _ ?side1 ?side2 A64.out).mono ?_); (case side1 => repeat (first | exact (by repeat (first | (with_reducible exact HR282_0.out) | (with_reducible refine Kd.C_alloc ?_ _) | (with_reducible refine Kd.C_drewN ?_ _) | (with_reducible refine Kd.C_drew ?_) | exact HR282_0.out)) | (with_reducible refine Kd.C_alloc ?_ _) | (with_reducible refine Kd.C_drewN ?_ _) | (with_reducible refine Kd.C_drew ?_))); (case side2 => exact HC282_0.out); rintro e w' ⟨rfl, ⟨nd, rfl⟩⟩; (try first | exact ⟨rfl, _, World.drewN_drewN _ _ _⟩ | exact ⟨rfl, _, Eq.trans (World.drewN_drewN _ _ _) (congrArg (World.drewN _) (Nat.add_assoc _ _ _))⟩))))
                           go_roundg k7
                           case measure => have := HJ8.out; have := HK2.out; have := HJ31.out; have := HJ40.out; have := HJ44.out; have := HJ50.out; have := HK7.out; omega
                           case rel => exact ⟨(wrap64 (x21_7 + 1)), (by first | rfl | (simp; done) | (simp [*]; done)), H', ⟨by have := HJ8.out; have := HK2.out; have := HJ31.out; have := HJ40.out; have := HJ44.out; have := HJ50.out; have := HK7.out; omega⟩, ⟨by (with_reducible repeat (first | apply Kd.R_alloc | apply Kd.R_drewN | apply Kd.R_drew)); exact HO_7.out⟩, ⟨by (with_reducible repeat (first | apply Kd.R_alloc | apply Kd.R_drewN | apply Kd.R_drew)); exact HO_8.out⟩, ⟨by (with_reducible repeat (first | apply Kd.S_alloc | apply Kd.S_drewN | apply Kd.S_drew)); exact HO_9.out⟩, ⟨by (with_reducible repeat (first | apply Kd.R_alloc | apply Kd.R_drewN | apply Kd.R_drew)); exact HO_11.out⟩, ⟨by (with_reducible repeat (first | apply Kd.R_alloc | apply Kd.R_drewN | apply Kd.R_drew)); exact HO_14.out⟩, ⟨by repeat (first | (with_reducible exact HR271_0.out) | (with_reducible refine Kd.C_alloc ?_ _) | (with_reducible refine Kd.C_drewN ?_ _) | (with_reducible refine Kd.C_drew ?_) | exact HR271_0.out)⟩, ⟨by repeat (first | (with_reducible first | exact HB.out | apply below_alloc | apply pw_below_drewN | apply below_drew1) | exact HB.out)⟩⟩
                         ·rw [if_neg c63] at H
                          exact absurd H (by simp)
                        ·rw [if_neg c62] at H
                         exact absurd H (by simp)
                       ·rw [if_neg c60] at H
                        exact absurd H (by simp)
                      ·rw [if_neg c59] at H
                       exact absurd H (by simp)
                     ·rw [if_neg c58] at H
                      have c58b0 : decide (x21_7 < x18_2) = false := decide_eq_false c58
                      clear c58
                      have H' := Aside0.mk H
                      clear H
                      go_wp2
                      repeat (go_quiet (fail); try go_wp2)
                      go_roundg k7
                      case measure => have := HJ8.out; have := HK2.out; have := HJ31.out; have := HJ40.out; have := HJ44.out; have := HJ50.out; have := HK7.out; omega
                      case rel => exact ⟨(x16_44), (x17_50), (wrap64 (x18_2 + 1)), (by first | rfl | (simp; done) | (simp [*]; done)), (by first | rfl | (simp; done) | (simp [*]; done)), (by first | rfl | (simp; done) | (simp [*]; done)), H', ⟨by have := HJ8.out; have := HK2.out; have := HJ31.out; have := HJ40.out; have := HJ44.out; have := HJ50.out; have := HK7.out; omega⟩, ⟨by (with_reducible repeat (first | apply Kd.R_alloc | apply Kd.R_drewN | apply Kd.R_drew)); exact HO_7.out⟩, ⟨by (with_reducible repeat (first | apply Kd.R_alloc | apply Kd.R_drewN | apply Kd.R_drew)); exact HO_8.out⟩, ⟨by (with_reducible repeat (first | apply Kd.S_alloc | apply Kd.S_drewN | apply Kd.S_drew)); exact HO_9.out⟩, ⟨by (with_reducible repeat (first | apply Kd.R_alloc | apply Kd.R_drewN | apply Kd.R_drew)); exact HO_11.out⟩, ⟨by (with_reducible repeat (first | apply Kd.R_alloc | apply Kd.R_drewN | apply Kd.R_drew)); exact HO_14.out⟩, ⟨by repeat (first | (with_reducible first | exact HB.out | apply below_alloc | apply pw_below_drewN | apply below_drew1) | exact HB.out)⟩⟩
           ·rw [if_neg c39] at H
            exact absurd H (by simp)
          ·rw [if_neg c38] at H
           exact absurd H (by simp)
      ·rw [if_neg c31] at H
       have c31b0 : decide (x18_2 < (t251.length : Int)) = false := decide_eq_false c31
       clear c31
       by_cases c66 : (((t255.length : Int) == t244) == x16_2) = true
       ·rw [if_pos c66] at H
        have c66b0 : (((t255.length : Int) == t244) == x16_2) = true := c66
        (try (have c66b1 : decide (((t255.length : Int) == t244) = x16_2) = true := by simpa using c66))
        (try (have c66b2 : (((t255.length : Int) == t244) == x16_2) = true := by simpa using c66))
        clear c66
        by_cases c67 : x17_2 = true
        ·subst c67
         have H1 : (if x16_2 = true then (if (t248.length : Int) ≥ (t260.length : Int) then ((numnahlaw06_awake.f).bind fun t266 => (some t266)) else (some false)) else ((numnahlaw06_awake.f).bind fun t267 => (some t267))) = some r := by rw [if_pos rfl] at H; exact H
         clear H
         have H := H1
         clear H1
         by_cases c68 : x16_2 = true
         ·subst c68
          have H1 : (if (t248.length : Int) ≥ (t260.length : Int) then ((numnahlaw06_awake.f).bind fun t266 => (some t266)) else (some false)) = some r := by rw [if_pos rfl] at H; exact H
          clear H
          have H := H1
          clear H1
          by_cases c69 : (t248.length : Int) ≥ (t260.length : Int)
          ·rw [if_pos c69] at H
           have c69b0 : decide ((t260.length : Int) ≤ (t248.length : Int)) = true := decide_eq_true c69
           have c69b1 : decide (t260.length ≤ t248.length) = true := decide_eq_true (Int.ofNat_le.mp c69)
           clear c69
           replace H := Option.bind_eq_some_iff.mp H
           obtain ⟨t266, A700, H⟩ := H
           replace H : (some t266) = some r := H
           have A70 := Aside0.mk A700
           clear A700
           obtain rfl := Option.some.inj H
           obtain ⟨Ao71, co71, eo71⟩ := Kd.S_slice HO_9.out
           subst eo71
           obtain ⟨Ao72, co72, eo72⟩ := Kd.R_slice HO_11.out
           subst eo72
           obtain ⟨Ao73, co73, eo73⟩ := Kd.R_slice HO_14.out
           subst eo73
           go_wp2_with (first | (go_at_call 21; (with_reducible refine (numnahlaw06_awake.calls  t266 _ A70.out ?sideT).mono ?_); (case sideT => exact tab_of (by repeat (first | (with_reducible first | exact HB.out | apply below_alloc | apply pw_below_drewN | apply below_drew1) | exact HB.out)) HT.out); rintro e w74 ⟨rfl, hb⟩; have n0_ := Aside0.mk (Kd.R_below (by (with_reducible repeat (first | apply Kd.R_alloc | apply Kd.R_drewN | apply Kd.R_drew)); exact HO_7.out) hb); have n1_ := Aside0.mk (Kd.R_below (by (with_reducible repeat (first | apply Kd.R_alloc | apply Kd.R_drewN | apply Kd.R_drew)); exact HO_8.out) hb); have n2_ := Aside0.mk (Kd.S_below (by (with_reducible repeat (first | apply Kd.S_alloc | apply Kd.S_drewN | apply Kd.S_drew)); exact HO_9.out) hb); have n3_ := Aside0.mk (Kd.R_below (by (with_reducible repeat (first | apply Kd.R_alloc | apply Kd.R_drewN | apply Kd.R_drew)); exact HO_11.out) hb); have n4_ := Aside0.mk (Kd.R_below (by (with_reducible repeat (first | apply Kd.R_alloc | apply Kd.R_drewN | apply Kd.R_drew)); exact HO_14.out) hb); have n5_ := Aside0.mk (below_step (by repeat (first | (with_reducible first | exact HB.out | apply below_alloc | apply pw_below_drewN | apply below_drew1) | exact HB.out)) hb); clear HO_7; clear HO_8; clear HO_9; clear HO_11; clear HO_14; clear HB; have HO_7 := n0_; have HO_8 := n1_; have HO_9 := n2_; have HO_11 := n3_; have HO_14 := n4_; have HB := n5_; clear n0_ n1_ n2_ n3_ n4_ n5_; (try clear hb); (try clear hb2); (try clear hk); (try clear hi)))
           repeat (go_quiet (first | (go_at_call 21; (with_reducible refine (numnahlaw06_awake.calls  t266 _ A70.out ?sideT).mono ?_); (case sideT => exact tab_of (by repeat (first | (with_reducible first | exact HB.out | apply below_alloc | apply pw_below_drewN | apply below_drew1) | exact HB.out)) HT.out); rintro e w74 ⟨rfl, hb⟩; have n0_ := Aside0.mk (Kd.R_below (by (with_reducible repeat (first | apply Kd.R_alloc | apply Kd.R_drewN | apply Kd.R_drew)); exact HO_7.out) hb); have n1_ := Aside0.mk (Kd.R_below (by (with_reducible repeat (first | apply Kd.R_alloc | apply Kd.R_drewN | apply Kd.R_drew)); exact HO_8.out) hb); have n2_ := Aside0.mk (Kd.S_below (by (with_reducible repeat (first | apply Kd.S_alloc | apply Kd.S_drewN | apply Kd.S_drew)); exact HO_9.out) hb); have n3_ := Aside0.mk (Kd.R_below (by (with_reducible repeat (first | apply Kd.R_alloc | apply Kd.R_drewN | apply Kd.R_drew)); exact HO_11.out) hb); have n4_ := Aside0.mk (Kd.R_below (by (with_reducible repeat (first | apply Kd.R_alloc | apply Kd.R_drewN | apply Kd.R_drew)); exact HO_14.out) hb); have n5_ := Aside0.mk (below_step (by repeat (first | (with_reducible first | exact HB.out | apply below_alloc | apply pw_below_drewN | apply below_drew1) | exact HB.out)) hb); clear HO_7; clear HO_8; clear HO_9; clear HO_11; clear HO_14; clear HB; have HO_7 := n0_; have HO_8 := n1_; have HO_9 := n2_; have HO_11 := n3_; have HO_14 := n4_; have HB := n5_; clear n0_ n1_ n2_ n3_ n4_ n5_; (try clear hb); (try clear hb2); (try clear hk); (try clear hi))); try go_wp2_with (first | (go_at_call 21; (with_reducible refine (numnahlaw06_awake.calls  t266 _ A70.out ?sideT).mono ?_); (case sideT => exact tab_of (by repeat (first | (with_reducible first | exact HB.out | apply below_alloc | apply pw_below_drewN | apply below_drew1) | exact HB.out)) HT.out); rintro e w74 ⟨rfl, hb⟩; have n0_ := Aside0.mk (Kd.R_below (by (with_reducible repeat (first | apply Kd.R_alloc | apply Kd.R_drewN | apply Kd.R_drew)); exact HO_7.out) hb); have n1_ := Aside0.mk (Kd.R_below (by (with_reducible repeat (first | apply Kd.R_alloc | apply Kd.R_drewN | apply Kd.R_drew)); exact HO_8.out) hb); have n2_ := Aside0.mk (Kd.S_below (by (with_reducible repeat (first | apply Kd.S_alloc | apply Kd.S_drewN | apply Kd.S_drew)); exact HO_9.out) hb); have n3_ := Aside0.mk (Kd.R_below (by (with_reducible repeat (first | apply Kd.R_alloc | apply Kd.R_drewN | apply Kd.R_drew)); exact HO_11.out) hb); have n4_ := Aside0.mk (Kd.R_below (by (with_reducible repeat (first | apply Kd.R_alloc | apply Kd.R_drewN | apply Kd.R_drew)); exact HO_14.out) hb); have n5_ := Aside0.mk (below_step (by repeat (first | (with_reducible first | exact HB.out | apply below_alloc | apply pw_below_drewN | apply below_drew1) | exact HB.out)) hb); clear HO_7; clear HO_8; clear HO_9; clear HO_11; clear HO_14; clear HB; have HO_7 := n0_; have HO_8 := n1_; have HO_9 := n2_; have HO_11 := n3_; have HO_14 := n4_; have HB := n5_; clear n0_ n1_ n2_ n3_ n4_ n5_; (try clear hb); (try clear hb2); (try clear hk); (try clear hi))))
           go_ret
           exact ⟨by first | rfl | (simp [errW_none, errW_some] <;> rfl) | (simp [*, errW_none, errW_some] <;> rfl), by repeat (first | (with_reducible first | exact HB.out | apply below_alloc | apply pw_below_drewN | apply below_drew1) | exact HB.out)⟩
          ·rw [if_neg c69] at H
           have c69b0 : decide ((t260.length : Int) ≤ (t248.length : Int)) = false := decide_eq_false c69
           have c69b1 : decide (t260.length ≤ t248.length) = false := decide_eq_false (fun h => c69 (Int.ofNat_le.mpr h))
           clear c69
           obtain rfl := Option.some.inj H
           obtain ⟨Ao75, co75, eo75⟩ := Kd.S_slice HO_9.out
           subst eo75
           obtain ⟨Ao76, co76, eo76⟩ := Kd.R_slice HO_11.out
           subst eo76
           obtain ⟨Ao77, co77, eo77⟩ := Kd.R_slice HO_14.out
           subst eo77
           go_wp2
           repeat (go_quiet (fail); try go_wp2)
           go_ret
           exact ⟨by first | rfl | (simp [errW_none, errW_some] <;> rfl) | (simp [*, errW_none, errW_some] <;> rfl), by repeat (first | (with_reducible first | exact HB.out | apply below_alloc | apply pw_below_drewN | apply below_drew1) | exact HB.out)⟩
         ·replace c68 := Bool.eq_false_iff.mpr c68
          subst c68
          have H1 : ((numnahlaw06_awake.f).bind fun t267 => (some t267)) = some r := by rw [if_neg (show ¬ (false = true) by decide)] at H; exact H
          clear H
          have H := H1
          clear H1
          replace H := Option.bind_eq_some_iff.mp H
          obtain ⟨t267, A780, H⟩ := H
          replace H : (some t267) = some r := H
          have A78 := Aside0.mk A780
          clear A780
          obtain rfl := Option.some.inj H
          obtain ⟨Ao79, co79, eo79⟩ := Kd.S_slice HO_9.out
          subst eo79
          obtain ⟨Ao80, co80, eo80⟩ := Kd.R_slice HO_11.out
          subst eo80
          go_wp2_with (first | (go_at_call 21; (with_reducible refine (numnahlaw06_awake.calls  t267 _ A78.out ?sideT).mono ?_); (case sideT => exact tab_of (by repeat (first | (with_reducible first | exact HB.out | apply below_alloc | apply pw_below_drewN | apply below_drew1) | exact HB.out)) HT.out); rintro e w81 ⟨rfl, hb⟩; have n0_ := Aside0.mk (Kd.R_below (by (with_reducible repeat (first | apply Kd.R_alloc | apply Kd.R_drewN | apply Kd.R_drew)); exact HO_7.out) hb); have n1_ := Aside0.mk (Kd.R_below (by (with_reducible repeat (first | apply Kd.R_alloc | apply Kd.R_drewN | apply Kd.R_drew)); exact HO_8.out) hb); have n2_ := Aside0.mk (Kd.S_below (by (with_reducible repeat (first | apply Kd.S_alloc | apply Kd.S_drewN | apply Kd.S_drew)); exact HO_9.out) hb); have n3_ := Aside0.mk (Kd.R_below (by (with_reducible repeat (first | apply Kd.R_alloc | apply Kd.R_drewN | apply Kd.R_drew)); exact HO_11.out) hb); have n4_ := Aside0.mk (Kd.R_below (by (with_reducible repeat (first | apply Kd.R_alloc | apply Kd.R_drewN | apply Kd.R_drew)); exact HO_14.out) hb); have n5_ := Aside0.mk (below_step (by repeat (first | (with_reducible first | exact HB.out | apply below_alloc | apply pw_below_drewN | apply below_drew1) | exact HB.out)) hb); clear HO_7; clear HO_8; clear HO_9; clear HO_11; clear HO_14; clear HB; have HO_7 := n0_; have HO_8 := n1_; have HO_9 := n2_; have HO_11 := n3_; have HO_14 := n4_; have HB := n5_; clear n0_ n1_ n2_ n3_ n4_ n5_; (try clear hb); (try clear hb2); (try clear hk); (try clear hi)))
          repeat (go_quiet (first | (go_at_call 21; (with_reducible refine (numnahlaw06_awake.calls  t267 _ A78.out ?sideT).mono ?_); (case sideT => exact tab_of (by repeat (first | (with_reducible first | exact HB.out | apply below_alloc | apply pw_below_drewN | apply below_drew1) | exact HB.out)) HT.out); rintro e w81 ⟨rfl, hb⟩; have n0_ := Aside0.mk (Kd.R_below (by (with_reducible repeat (first | apply Kd.R_alloc | apply Kd.R_drewN | apply Kd.R_drew)); exact HO_7.out) hb); have n1_ := Aside0.mk (Kd.R_below (by (with_reducible repeat (first | apply Kd.R_alloc | apply Kd.R_drewN | apply Kd.R_drew)); exact HO_8.out) hb); have n2_ := Aside0.mk (Kd.S_below (by (with_reducible repeat (first | apply Kd.S_alloc | apply Kd.S_drewN | apply Kd.S_drew)); exact HO_9.out) hb); have n3_ := Aside0.mk (Kd.R_below (by (with_reducible repeat (first | apply Kd.R_alloc | apply Kd.R_drewN | apply Kd.R_drew)); exact HO_11.out) hb); have n4_ := Aside0.mk (Kd.R_below (by (with_reducible repeat (first | apply Kd.R_alloc | apply Kd.R_drewN | apply Kd.R_drew)); exact HO_14.out) hb); have n5_ := Aside0.mk (below_step (by repeat (first | (with_reducible first | exact HB.out | apply below_alloc | apply pw_below_drewN | apply below_drew1) | exact HB.out)) hb); clear HO_7; clear HO_8; clear HO_9; clear HO_11; clear HO_14; clear HB; have HO_7 := n0_; have HO_8 := n1_; have HO_9 := n2_; have HO_11 := n3_; have HO_14 := n4_; have HB := n5_; clear n0_ n1_ n2_ n3_ n4_ n5_; (try clear hb); (try clear hb2); (try clear hk); (try clear hi))); try go_wp2_with (first | (go_at_call 21; (with_reducible refine (numnahlaw06_awake.calls  t267 _ A78.out ?sideT).mono ?_); (case sideT => exact tab_of (by repeat (first | (with_reducible first | exact HB.out | apply below_alloc | apply pw_below_drewN | apply below_drew1) | exact HB.out)) HT.out); rintro e w81 ⟨rfl, hb⟩; have n0_ := Aside0.mk (Kd.R_below (by (with_reducible repeat (first | apply Kd.R_alloc | apply Kd.R_drewN | apply Kd.R_drew)); exact HO_7.out) hb); have n1_ := Aside0.mk (Kd.R_below (by (with_reducible repeat (first | apply Kd.R_alloc | apply Kd.R_drewN | apply Kd.R_drew)); exact HO_8.out) hb); have n2_ := Aside0.mk (Kd.S_below (by (with_reducible repeat (first | apply Kd.S_alloc | apply Kd.S_drewN | apply Kd.S_drew)); exact HO_9.out) hb); have n3_ := Aside0.mk (Kd.R_below (by (with_reducible repeat (first | apply Kd.R_alloc | apply Kd.R_drewN | apply Kd.R_drew)); exact HO_11.out) hb); have n4_ := Aside0.mk (Kd.R_below (by (with_reducible repeat (first | apply Kd.R_alloc | apply Kd.R_drewN | apply Kd.R_drew)); exact HO_14.out) hb); have n5_ := Aside0.mk (below_step (by repeat (first | (with_reducible first | exact HB.out | apply below_alloc | apply pw_below_drewN | apply below_drew1) | exact HB.out)) hb); clear HO_7; clear HO_8; clear HO_9; clear HO_11; clear HO_14; clear HB; have HO_7 := n0_; have HO_8 := n1_; have HO_9 := n2_; have HO_11 := n3_; have HO_14 := n4_; have HB := n5_; clear n0_ n1_ n2_ n3_ n4_ n5_; (try clear hb); (try clear hb2); (try clear hk); (try clear hi))))
          go_ret
          exact ⟨by first | rfl | (simp [errW_none, errW_some] <;> rfl) | (simp [*, errW_none, errW_some] <;> rfl), by repeat (first | (with_reducible first | exact HB.out | apply below_alloc | apply pw_below_drewN | apply below_drew1) | exact HB.out)⟩
        ·replace c67 := Bool.eq_false_iff.mpr c67
         subst c67
         have H1 : (some false) = some r := by rw [if_neg (show ¬ (false = true) by decide)] at H; exact H
         clear H
         have H := H1
         clear H1
         obtain rfl := Option.some.inj H
         obtain ⟨Ao82, co82, eo82⟩ := Kd.S_slice HO_9.out
         subst eo82
         obtain ⟨Ao83, co83, eo83⟩ := Kd.R_slice HO_11.out
         subst eo83
         go_wp2
         repeat (go_quiet (fail); try go_wp2)
         go_ret
         exact ⟨by first | rfl | (simp [errW_none, errW_some] <;> rfl) | (simp [*, errW_none, errW_some] <;> rfl), by repeat (first | (with_reducible first | exact HB.out | apply below_alloc | apply pw_below_drewN | apply below_drew1) | exact HB.out)⟩
       ·rw [if_neg c66] at H
        have c66b0 : (((t255.length : Int) == t244) == x16_2) = false := by simpa using c66
        (try (have c66b1 : decide (((t255.length : Int) == t244) = x16_2) = false := by simpa using c66))
        (try (have c66b2 : (((t255.length : Int) == t244) == x16_2) = false := by simpa using c66))
        (try (have c66b3 : ¬ (((t255.length : Int) == t244) = x16_2) := by simpa using c66))
        clear c66
        obtain rfl := Option.some.inj H
        obtain ⟨Ao84, co84, eo84⟩ := Kd.S_slice HO_9.out
        subst eo84
        obtain ⟨Ao85, co85, eo85⟩ := Kd.R_slice HO_11.out
        subst eo85
        go_wp2
        repeat (go_quiet (fail); try go_wp2)
        go_ret
        exact ⟨by first | rfl | (simp [errW_none, errW_some] <;> rfl) | (simp [*, errW_none, errW_some] <;> rfl), by repeat (first | (with_reducible first | exact HB.out | apply below_alloc | apply pw_below_drewN | apply below_drew1) | exact HB.out)⟩

end Go.Proofs.YtpbeaaihdmfnlaaDoor.G

/- ### LHits -/
/- The law of forts that are hit, in plain words. -/
namespace Go.Proofs.YtpbeaaihdmfnlaaDoor.P
open Go Go.RowKit Go.Proofs.YtpbeaaihdmfnlaaDoor.M Go.Proofs.YtpbeaaihdmfnlaaDoor.H Go.Proofs.YtpbeaaihdmfnlaaDoor.G
open Go.Proofs.YtpbeaaihdmfnlaaDoorW.PrintWords Go.Proofs.YtpbeaaihdmfnlaaDoorW.PrintMore

theorem rd_rows {F : List Nat} {i : Nat} (hil : i < F.length) : rd_L3 (F.map fun x => natsI (bitsOf x)) (i : Int) = natsI (bitsOf F[i]) := by
  unfold rd_L3
  rw [Int.toNat_natCast, List.getD_eq_getElem?_getD, List.getElem?_map, List.getElem?_eq_getElem hil]
  rfl
theorem and_ne {a b : Nat} (ha : a < 4096) (hb : b < 4096) : ((Go.bits .and .i64 (a : Int) (b : Int)) != 0) = (a &&& b != 0) := by
  rw [andI ha hb, Bool.eq_iff_iff, bne_iff_ne, bne_iff_ne]; omega
section
variable {n s c m : Nat} {l : List S48} {F : List Nat}
theorem hits_l1 (hlt : ∀ x ∈ F, x < 4096) (hlen : F.length ≤ 4096) (h16 h17 : Bool) {i : Nat} (hi : i < F.length) (hne : ∀ j (h : j < i), andNot (F[j]'(by omega)) F[i] ≠ 0)
    (h : Ev (fun k => numnahlaw06_WettingHits.l0 k (n : Int) l (natsI (bitsOf s)) (F.map fun x => natsI (bitsOf x)) (natsI (bitsOf c)) (natsI (bitsOf m)) h16 h17 ((i + 1 : Nat) : Int)) true) : ∀ (d j : Nat), j + d = i →
    Ev (fun k => numnahlaw06_WettingHits.l1 k (n : Int) l (natsI (bitsOf s)) (F.map fun x => natsI (bitsOf x)) (natsI (bitsOf c)) (natsI (bitsOf m)) h16 h17 (i : Int) (j : Int)) true := by
  intro d
  induction d with
  | zero =>
    intro j hj
    refine Ev.step (fun k => ?_) h
    simp only [numnahlaw06_WettingHits.l1]
    rw [if_neg (by omega), wrap_succ (by omega)]
  | succ d ih =>
    intro j hj
    have hjl : j < F.length := by omega
    have hxj := hlt F[j] (List.getElem_mem hjl)
    have hxi := hlt F[i] (List.getElem_mem hi)
    refine Ev.step (f := fun k => (numnahref06_Set.f k (natsI (bitsOf F[j]))).bind fun t281 => ((numnahref06_Set.f k (natsI (bitsOf F[i]))).bind fun t283 => (if (Go.bits .andNot .i64 t281 t283) = 0 then (some false) else (numnahlaw06_WettingHits.l1 k (n : Int) l (natsI (bitsOf s)) (F.map fun x => natsI (bitsOf x)) (natsI (bitsOf c)) (natsI (bitsOf m)) h16 h17 (i : Int) ((j + 1 : Nat) : Int))))) (fun k => ?_) ?_
    · simp only [numnahlaw06_WettingHits.l1]
      have c1 : (0 : Int) ≤ (i : Int) := by omega
      have c2 : (i : Int) < (F.length : Int) := by omega
      have c3 : wrap64 ((j : Int) + 1) = ((j + 1 : Nat) : Int) := wrap_succ (by omega)
      rw [if_pos (by omega), if_pos (by omega), List.length_map, if_pos (by omega), rd_rows hjl]
      simp only [if_pos c1, if_pos c2, rd_rows hi, c3]
    · refine Ev.bind (ev_set hxj) ?_
      refine Ev.bind (ev_set hxi) ?_
      refine Ev.congr (fun k => if_neg ?_) (ih (j + 1) (by omega))
      rw [andN hxj]
      have := hne j (by omega)
      omega
theorem hits_l0 (hg : GOk n l (nearOf l)) (hgr : graphM (n : Int) l = some ⟨n, nearOf l⟩) (hfit : fitL l) (hF : F = fortsM n (nearOf l)) (hs : s < 2 ^ n) (hm : m < 2 ^ n) (hc : c < 2 ^ n)
    (hfin : (card c = n ↔ ∀ x ∈ F, x &&& s ≠ 0)) (hmeet : ∀ x ∈ F, x &&& m ≠ 0) (hcard : (∀ x ∈ F, x &&& s ≠ 0) → card m ≤ card s) : ∀ (d i : Nat), i + d = F.length →
    Ev (fun k => numnahlaw06_WettingHits.l0 k (n : Int) l (natsI (bitsOf s)) (F.map fun x => natsI (bitsOf x)) (natsI (bitsOf c)) (natsI (bitsOf m)) ((F.take i).all fun x => x &&& s != 0) ((F.take i).all fun x => x &&& m != 0) (i : Int)) true := by
  have h12 := p12 hg.le
  have hspec := forts_spec (near := nearOf l) hg.le
  rw [← hF] at hspec
  have hlt : ∀ x ∈ F, x < 4096 := fun x hx => Nat.lt_of_lt_of_le ((hspec.1 x).1 hx).1 h12
  have hlen : F.length ≤ 4096 := nodup_lt (hspec.2.imp (fun h => before_ne h)) hlt
  intro d
  induction d with
  | zero =>
    intro i hi
    rw [List.take_of_length_le (by omega : F.length ≤ i)]
    have h17 : (F.all fun x => x &&& m != 0) = true := List.all_eq_true.2 fun x hx => by rw [bne_iff_ne]; exact hmeet x hx
    have h16 : (F.all fun x => x &&& s != 0) = decide (card c = n) := by
      rw [Bool.eq_iff_iff, List.all_eq_true, decide_eq_true_iff, hfin]
      exact ⟨fun h x hx => by have := h x hx; rwa [bne_iff_ne] at this, fun h x hx => by rw [bne_iff_ne]; exact h x hx⟩
    refine Ev.step (f := fun _ => (numnahlaw06_awake.f).bind fun t => some t) (fun k => ?_) ev_awake
    simp only [numnahlaw06_WettingHits.l0]
    have hcl : ((natsI (bitsOf c)).length : Int) = (card c : Int) := by rw [natsI_length]; rfl
    have hml : ((natsI (bitsOf m)).length : Int) = (card m : Int) := by rw [natsI_length]; rfl
    have hsl : ((natsI (bitsOf s)).length : Int) = (card s : Int) := by rw [natsI_length]; rfl
    have hbe : (((card c : Nat) : Int) == (n : Int)) = decide (card c = n) := by rw [Bool.eq_iff_iff, beq_iff_eq, decide_eq_true_iff]; omega
    rw [List.length_map, if_neg (by omega), h17, h16, hcl, hml, hsl, hbe, if_pos (beq_self_eq_true _), if_pos rfl]
    by_cases h : card c = n
    · rw [if_pos (decide_eq_true h), if_pos (by have := hcard (hfin.1 h); omega)]
    · rw [if_neg (by rw [decide_eq_false h]; simp)]
  | succ d ih =>
    intro i hi
    have hil : i < F.length := by omega
    have hx := hlt F[i] (List.getElem_mem hil)
    have hxm := (hspec.1 F[i]).1 (List.getElem_mem hil)
    have hs' : s < 4096 := by omega
    have hm' : m < 4096 := by omega
    have e16 : ((F.take (i + 1)).all fun x => x &&& s != 0) = (((F.take i).all fun x => x &&& s != 0) && (F[i] &&& s != 0)) := by rw [← List.take_append_getElem hil, List.all_append]; simp
    have e17 : ((F.take (i + 1)).all fun x => x &&& m != 0) = (((F.take i).all fun x => x &&& m != 0) && (F[i] &&& m != 0)) := by rw [← List.take_append_getElem hil, List.all_append]; simp
    have next := ih (i + 1) (by omega)
    rw [e16, e17] at next
    obtain ⟨b16, hb16⟩ : ∃ b, ((F.take i).all fun x => x &&& s != 0) = b := ⟨_, rfl⟩
    obtain ⟨b17, hb17⟩ : ∃ b, ((F.take i).all fun x => x &&& m != 0) = b := ⟨_, rfl⟩
    rw [hb16, hb17] at next ⊢
    have hne : ∀ j (h : j < i), andNot (F[j]'(by omega)) F[i] ≠ 0 := by
      intro j hj h0
      have hb := (List.pairwise_iff_getElem.1 hspec.2) j i (by omega) hil hj
      have h1 := hxm.2.2 F[j] (andNot_zero.1 h0) ((hspec.1 F[j]).1 (List.getElem_mem _)).2.1
      rw [h1, before_irrefl] at hb; cases hb
    have j5 := Ev.step (g := fun k => numnahlaw06_WettingHits.j5 k (n : Int) l (natsI (bitsOf s)) (F.map fun x => natsI (bitsOf x)) (natsI (bitsOf c)) (natsI (bitsOf m)) (b16 && (F[i] &&& s != 0)) (b17 && (F[i] &&& m != 0)) (i : Int)) (fun k => by simp only [numnahlaw06_WettingHits.j5]; rfl) (hits_l1 hlt hlen _ _ hil hne next i 0 (by omega))
    have hset : ∀ x, x < 4096 → Ev (fun k => numnahref06_Set.f k (natsI (bitsOf x))) (x : Int) := fun x h => ev_set h
    have j4 : Ev (fun k => numnahlaw06_WettingHits.j4 k (n : Int) l (natsI (bitsOf s)) (F.map fun x => natsI (bitsOf x)) (natsI (bitsOf c)) (natsI (bitsOf m)) (b16 && (F[i] &&& s != 0)) b17 (i : Int)) true := by
      cases b17 with
      | false => exact Ev.step (fun k => by simp only [numnahlaw06_WettingHits.j4]; rw [if_neg (by simp)]; rfl) j5
      | true =>
        refine Ev.step (f := fun k => (numnahref06_Set.f k (natsI (bitsOf F[i]))).bind fun t278 => ((numnahref06_Set.f k (natsI (bitsOf m))).bind fun t279 => (numnahlaw06_WettingHits.j5 k (n : Int) l (natsI (bitsOf s)) (F.map fun x => natsI (bitsOf x)) (natsI (bitsOf c)) (natsI (bitsOf m)) (b16 && (F[i] &&& s != 0)) ((Go.bits .and .i64 t278 t279) != 0) (i : Int)))) (fun k => ?_) ?_
        · simp only [numnahlaw06_WettingHits.j4]
          rw [if_pos trivial, if_pos (by omega), List.length_map, if_pos (by omega), rd_rows hil]
        · refine Ev.bind (hset _ hx) ?_
          refine Ev.bind (hset _ hm') ?_
          rw [and_ne hx hm']
          exact j5
    have j3 : Ev (fun k => numnahlaw06_WettingHits.j3 k (n : Int) l (natsI (bitsOf s)) (F.map fun x => natsI (bitsOf x)) (natsI (bitsOf c)) (natsI (bitsOf m)) b16 b17 (i : Int) false) true := by
      cases b16 with
      | false => exact Ev.step (fun k => by simp only [numnahlaw06_WettingHits.j3]; rw [if_neg (by simp), if_neg (by simp)]; rfl) j4
      | true =>
        refine Ev.step (f := fun k => (numnahref06_Set.f k (natsI (bitsOf F[i]))).bind fun t275 => ((numnahref06_Set.f k (natsI (bitsOf s))).bind fun t276 => (numnahlaw06_WettingHits.j4 k (n : Int) l (natsI (bitsOf s)) (F.map fun x => natsI (bitsOf x)) (natsI (bitsOf c)) (natsI (bitsOf m)) ((Go.bits .and .i64 t275 t276) != 0) b17 (i : Int)))) (fun k => ?_) ?_
        · simp only [numnahlaw06_WettingHits.j3]
          rw [if_neg (by simp), if_pos trivial, if_pos (by omega), List.length_map, if_pos (by omega), rd_rows hil]
        · refine Ev.bind (hset _ hx) ?_
          refine Ev.bind (hset _ hs') ?_
          rw [and_ne hx hs']
          exact j4
    have hbo : bothM (n : Int) l (natsI (bitsOf F[i])) = some (⟨n, nearOf l⟩, F[i]) := by
      unfold bothM
      rw [hgr, Option.bind_some]
      show (setM n _).map _ = _
      rw [setM_bits (by have := hg.le; omega) hxm.1]
      rfl
    have j2 : Ev (fun k => numnahlaw06_WettingHits.j2 k (n : Int) l (natsI (bitsOf s)) (F.map fun x => natsI (bitsOf x)) (natsI (bitsOf c)) (natsI (bitsOf m)) b16 b17 (i : Int) false) true := by
      refine Ev.step (fun k => ?_) j3
      have hfi : wetting_IsFort.f (n : Int) l (natsI (bitsOf F[i])) = some (true, 0) := by
        unfold wetting_IsFort.f
        rw [if_pos ⟨⟨by omega, by have := hg.le; omega⟩, hfit, fit_small (by rw [natsI_length]; have := card_lt64 hx; show card _ ≤ _; omega)⟩]
        unfold isFortX
        rw [hbo]
        show some (fortM n (nearOf l) F[i], (0 : Int)) = _
        rw [hxm.2.1]
      simp only [numnahlaw06_WettingHits.j2]
      rw [if_neg (by simp), if_pos (by omega), List.length_map, if_pos (by omega), rd_rows hil, hfi]
      rfl
    refine Ev.step (f := fun k => (numnahlaw06_within.f k (n : Int) (natsI (bitsOf F[i]))).bind fun t269 => (if t269 = true then (numnahlaw06_WettingHits.j2 k (n : Int) l (natsI (bitsOf s)) (F.map fun x => natsI (bitsOf x)) (natsI (bitsOf c)) (natsI (bitsOf m)) b16 b17 (i : Int) (decide (((natsI (bitsOf F[i])).length : Int) < 1))) else (numnahlaw06_WettingHits.j2 k (n : Int) l (natsI (bitsOf s)) (F.map fun x => natsI (bitsOf x)) (natsI (bitsOf c)) (natsI (bitsOf m)) b16 b17 (i : Int) true))) (fun k => ?_) ?_
    · simp only [numnahlaw06_WettingHits.l0]
      rw [List.length_map, if_pos (by omega), if_pos (by omega), rd_rows hil]
    · have hw := ev_within (n := n) (l := natsI (bitsOf F[i])) (by rw [natsI_length]; have := card_lt64 hx; show card _ < _; omega)
      rw [setM_bits (by have := hg.le; omega) hxm.1] at hw
      refine Ev.bind hw ?_
      refine Ev.congr (fun k => if_pos rfl) ?_
      have hp : 0 < card F[i] := by obtain ⟨v, hv⟩ := ne_zero_bit (fort_ne hxm.2.1); exact card_pos (by omega) hv
      rw [decide_eq_false (by rw [natsI_length]; show ¬ ((card F[i] : Nat) : Int) < 1; omega)]
      exact j2
end
theorem hits_pure (a0 : Int) (_ : inI a0) (l : List S48) (hl : fitL l) (a2 : Int) (_ : inI a2) : ∃ k, numnahlaw06_WettingHits.f k a0 l a2 = some true := by
  obtain ⟨n, out, h1, h2, h3, hv⟩ := ev_tame a0 (l := l) (by unfold fitL at hl; omega)
  obtain ⟨hgr, hg⟩ := graph_some h1 h2 h3
  obtain ⟨s, hs, hse⟩ := ev_some h2 a2
  have hr := hg.lt
  have g := good_forced hr
  have hlen66 := edgesB_length h2 h3
  have hout : out.length ≤ 1000 := by
    have : ∀ n, n ≤ 12 → n * (n - 1) / 2 ≤ 66 := by decide
    have := this n h2
    omega
  have hfit : fitL out := fit_small hout
  have hin : inI (n : Int) := ⟨by omega, by omega⟩
  have hs' : s < 4096 := Nat.lt_of_lt_of_le hs (p12 h2)
  have hfs : fitL (natsI (bitsOf s)) := fit_small (by rw [natsI_length]; have := card_lt64 hs'; show card _ ≤ _; omega)
  have f1 : wetting_Forts.f (n : Int) out = some ((fortsM n (nearOf out)).map (fun x => natsI (bitsOf x)), 0) := by
    unfold wetting_Forts.f; rw [if_pos ⟨hin, hfit⟩]; unfold fortsX; rw [hgr]
  have hbo : bothM (n : Int) out (natsI (bitsOf s)) = some (⟨n, nearOf out⟩, s) := by
    unfold bothM; rw [hgr, Option.bind_some]; show (setM n _).map _ = _; rw [setM_bits (by omega) hs]; rfl
  have f2 : wetting_Close.f (n : Int) out (natsI (bitsOf s)) = some (natsI (bitsOf (cl (forcedM (nearOf out)) n s)), max 0 (maxL (L n (closeR (forcedM (nearOf out)) n s).2)), 0) := by
    unfold wetting_Close.f; rw [if_pos ⟨hin, hfit, hfs⟩]; unfold closeX; rw [hbo]; rfl
  have f3 : wetting_Least.f (n : Int) out = some (natsI (bitsOf (firstM (forcedM (nearOf out)) n)), 0) := by
    unfold wetting_Least.f; rw [if_pos ⟨hin, hfit⟩]; unfold leastX; rw [hgr]
  have hfirst := first_first h2 g
  have hcl := cl_lt g hs
  have within : ∀ t, t < 2 ^ n → Ev (fun k => numnahlaw06_within.f k (n : Int) (natsI (bitsOf t))) true := by
    intro t ht
    have ht' : t < 4096 := Nat.lt_of_lt_of_le ht (p12 h2)
    have hw := ev_within (n := n) (l := natsI (bitsOf t)) (by rw [natsI_length]; have := card_lt64 ht'; show card _ < _; omega)
    rw [setM_bits (by omega) ht] at hw
    exact hw
  refine Ev.rounds ?_
  simp only [numnahlaw06_WettingHits.f]
  refine Ev.bind hv ?_
  refine Ev.bind hse ?_
  simp only [f1, f2, f3, Option.bind_some, if_true]
  have hne := forts_ne (near := nearOf out) h1 h2
  refine Ev.congr (fun k => if_neg (by rw [List.length_map]; have := List.length_pos_iff.2 hne; omega)) ?_
  refine Ev.bind (within _ hcl) ?_
  refine Ev.congr (fun k => if_pos rfl) ?_
  refine Ev.bind (within _ hfirst.lt) ?_
  have hiff := forcing_iff h2 hr hs
  refine Ev.step (fun k => ?_) (hits_l0 (c := cl (forcedM (nearOf out)) n s) (m := firstM (forcedM (nearOf out)) n) hg hgr hfit rfl hs hfirst.lt hcl ((card_eq_full hcl (by omega)).trans hiff) ((forcing_iff h2 hr hfirst.lt).1 (goodB_iff.1 hfirst.good)) (fun h => ?_) (fortsM n (nearOf out)).length 0 (by omega))
  · simp only [numnahlaw06_WettingHits.j0]
    rw [if_neg (by simp)]
    rfl
  · by_cases hsm : s = firstM (forcedM (nearOf out)) n
    · rw [hsm]; exact Nat.le_refl _
    · exact before_card (hfirst.first s hs (goodB_iff.2 (hiff.2 h)) hsm)
end Go.Proofs.YtpbeaaihdmfnlaaDoor.P
