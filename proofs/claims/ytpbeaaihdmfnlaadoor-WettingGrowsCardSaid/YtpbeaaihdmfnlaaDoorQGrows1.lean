/- Several texts, joined. -/
import Derived.Test.YtpbeaaihdmfnlaaDoorQB6
namespace Go.Proofs.YtpbeaaihdmfnlaaDoor.G
end Go.Proofs.YtpbeaaihdmfnlaaDoor.G
namespace Go.Proofs.YtpbeaaihdmfnlaaDoor.H
end Go.Proofs.YtpbeaaihdmfnlaaDoor.H
namespace Go.Proofs.YtpbeaaihdmfnlaaDoor.M
end Go.Proofs.YtpbeaaihdmfnlaaDoor.M
namespace Go.Proofs.YtpbeaaihdmfnlaaDoor.Row
end Go.Proofs.YtpbeaaihdmfnlaaDoor.Row
namespace Go.Proofs.YtpbeaaihdmfnlaaDoorW.PrintLast
end Go.Proofs.YtpbeaaihdmfnlaaDoorW.PrintLast
namespace Go.Proofs.YtpbeaaihdmfnlaaDoorW.PrintMore
end Go.Proofs.YtpbeaaihdmfnlaaDoorW.PrintMore
namespace Go.Proofs.YtpbeaaihdmfnlaaDoorW.PrintWords
end Go.Proofs.YtpbeaaihdmfnlaaDoorW.PrintWords

/- ### Gx21 -/
-- Written by a program for this seat: plain functions and their walks.
namespace Go.Proofs.YtpbeaaihdmfnlaaDoor.G
open Go.RowKit Go.Proofs.YtpbeaaihdmfnlaaDoor.H Go.Proofs.YtpbeaaihdmfnlaaDoorW.PrintWords Go.Proofs.YtpbeaaihdmfnlaaDoorW.PrintLast Go.Proofs.YtpbeaaihdmfnlaaDoorW.PrintMore
attribute [local go_sem] max2_int min2_int max_two min_two max_three min_three max_four min_four   -- for this text's walks alone
set_option linter.unusedVariables false
set_option linter.unusedSimpArgs false

/-! ### numnahlaw06_WettingGrows: function 13 -/
mutual
def numnahlaw06_WettingGrows.j0 : Nat → Int → List (S48) → List Int → List Int → List Int → List Int → List Int → Bool → Option (Bool)
 | 0, _, _, _, _, _, _, _, _ => none
 | k + 1, x0, x7, x9, x11, x14, x17, x20, x122 => if x122 = true then (some false) else ((numnahref06_Set.f k x9).bind fun t689 => ((numnahref06_Set.f k x11).bind fun t690 => (if (Go.bits .andNot .i64 t689 t690) = 0 then ((numnahref06_Set.f k x11).bind fun t691 => ((numnahref06_Set.f k x14).bind fun t692 => (if (Go.bits .andNot .i64 t691 t692) = 0 then ((numnahref06_Set.f k x9).bind fun t693 => ((numnahref06_Set.f k x17).bind fun t694 => (if (Go.bits .andNot .i64 t693 t694) = 0 then ((numnahref06_Set.f k x17).bind fun t695 => ((numnahref06_Set.f k x20).bind fun t696 => (numnahlaw06_WettingGrows.j1 k x0 x7 x9 x11 ((Go.bits .andNot .i64 t695 t696) != 0)))) else (numnahlaw06_WettingGrows.j1 k x0 x7 x9 x11 true)))) else (numnahlaw06_WettingGrows.j1 k x0 x7 x9 x11 true)))) else (numnahlaw06_WettingGrows.j1 k x0 x7 x9 x11 true))))
def numnahlaw06_WettingGrows.j1 : Nat → Int → List (S48) → List Int → List Int → Bool → Option (Bool)
 | 0, _, _, _, _, _ => none
 | k + 1, x0, x7, x9, x11, x152 => if x152 = true then (some false) else ((wetting_Close.f x0 x7 x11).bind fun bt697 => ((wetting_Fort.f x0 x7 x9).bind fun bt702 => (if bt697.2.2 = 0 then (if bt697.2.1 = 0 then ((numnahlaw06_ints.f k bt697.1 x11).bind fun t706 => (if t706 = true then (numnahlaw06_WettingGrows.j2 k x0 x11 bt702.1 bt702.2 ((bt702.2 == 0) != (decide ((x11.length : Int) < x0)))) else (numnahlaw06_WettingGrows.j2 k x0 x11 bt702.1 bt702.2 true))) else (numnahlaw06_WettingGrows.j2 k x0 x11 bt702.1 bt702.2 true)) else (numnahlaw06_WettingGrows.j2 k x0 x11 bt702.1 bt702.2 true))))
def numnahlaw06_WettingGrows.j2 : Nat → Int → List Int → List Int → Int → Bool → Option (Bool)
 | 0, _, _, _, _, _ => none
 | k + 1, x0, x11, x26, x27, x188 => if x188 = true then (some false) else (if x27 = 0 then ((numnahlaw06_within.f k x0 x26).bind fun t707 => (if t707 = true then ((numnahref06_Set.f k x26).bind fun t708 => ((numnahref06_Set.f k x11).bind fun t709 => (if 0 ≤ x0 then (if (wrap64 (t708 + t709)) = (wrap64 ((shl .i64 1 x0) - 1)) then ((numnahlaw06_awake.f).bind fun t710 => (some t710)) else (some false)) else (none)))) else (some false))) else ((numnahlaw06_awake.f).bind fun t711 => (some t711)))
end
def numnahlaw06_WettingGrows.f (k : Nat) (a0 : Int) (l1 : List (S48)) (a2_0 : Int) (a2_1 : Int) (a2_2 : Int) : Option (Bool) := (numnahlaw06_tame.f k a0 l1).bind fun bt652 => ((numnahlaw06_mod.f a2_2 6).bind fun t656 => ((numnahlaw06_some.f k bt652.1 a2_0).bind fun t657 => ((numnahref06_Set.f k t657).bind fun t660 => ((numnahlaw06_mod.f a2_1 bt652.1).bind fun t661 => (if 0 ≤ t661 then ((numnahref06_List.f k (Go.bits .or .i64 t660 (shl .i64 1 t661))).bind fun t662 => ((wetting_Close.f bt652.1 bt652.2 t657).bind fun bt665 => ((wetting_Close.f bt652.1 bt652.2 t662).bind fun bt670 => ((wetting_Soak.f bt652.1 bt652.2 t657 (wrap64 (1 + t656))).bind fun bt675 => ((wetting_Soak.f bt652.1 bt652.2 t662 (wrap64 (1 + t656))).bind fun bt680 => (if bt665.2.2 = 0 then (if bt670.2.2 = 0 then (if bt675.2.2 = 0 then (if bt680.2.2 = 0 then ((numnahlaw06_within.f k bt652.1 bt665.1).bind fun t685 => (if t685 = true then ((numnahlaw06_within.f k bt652.1 bt670.1).bind fun t686 => (if t686 = true then ((numnahlaw06_within.f k bt652.1 bt675.1).bind fun t687 => (if t687 = true then ((numnahlaw06_within.f k bt652.1 bt680.1).bind fun t688 => (numnahlaw06_WettingGrows.j0 k bt652.1 bt652.2 t657 bt665.1 bt670.1 bt675.1 bt680.1 (!t688))) else (numnahlaw06_WettingGrows.j0 k bt652.1 bt652.2 t657 bt665.1 bt670.1 bt675.1 bt680.1 true))) else (numnahlaw06_WettingGrows.j0 k bt652.1 bt652.2 t657 bt665.1 bt670.1 bt675.1 bt680.1 true))) else (numnahlaw06_WettingGrows.j0 k bt652.1 bt652.2 t657 bt665.1 bt670.1 bt675.1 bt680.1 true))) else (numnahlaw06_WettingGrows.j0 k bt652.1 bt652.2 t657 bt665.1 bt670.1 bt675.1 bt680.1 true)) else (numnahlaw06_WettingGrows.j0 k bt652.1 bt652.2 t657 bt665.1 bt670.1 bt675.1 bt680.1 true)) else (numnahlaw06_WettingGrows.j0 k bt652.1 bt652.2 t657 bt665.1 bt670.1 bt675.1 bt680.1 true)) else (numnahlaw06_WettingGrows.j0 k bt652.1 bt652.2 t657 bt665.1 bt670.1 bt675.1 bt680.1 true))))))) else (none))))))
theorem numnahlaw06_WettingGrows.mono_l : ∀ k, (∀ y0 y1 y2 y3 y4 y5 y6 y7, LeO (numnahlaw06_WettingGrows.j0 k y0 y1 y2 y3 y4 y5 y6 y7) (numnahlaw06_WettingGrows.j0 (k + 1) y0 y1 y2 y3 y4 y5 y6 y7)) ∧ (∀ y0 y1 y2 y3 y4, LeO (numnahlaw06_WettingGrows.j1 k y0 y1 y2 y3 y4) (numnahlaw06_WettingGrows.j1 (k + 1) y0 y1 y2 y3 y4)) ∧ (∀ y0 y1 y2 y3 y4, LeO (numnahlaw06_WettingGrows.j2 k y0 y1 y2 y3 y4) (numnahlaw06_WettingGrows.j2 (k + 1) y0 y1 y2 y3 y4))
 | 0 => ⟨fun _ _ _ _ _ _ _ _ r h => by simp [numnahlaw06_WettingGrows.j0] at h, fun _ _ _ _ _ r h => by simp [numnahlaw06_WettingGrows.j1] at h, fun _ _ _ _ _ r h => by simp [numnahlaw06_WettingGrows.j2] at h⟩
 | k + 1 => by
  obtain ⟨ih0, ih1, ih2⟩ := numnahlaw06_WettingGrows.mono_l k
  refine ⟨?_, ?_, ?_⟩
  ·intro y0 y1 y2 y3 y4 y5 y6 y7
   unfold numnahlaw06_WettingGrows.j0
   repeat' first
   | (with_reducible exact ih0 _ _ _ _ _ _ _ _)
   | (with_reducible exact ih1 _ _ _ _ _)
   | (with_reducible exact ih2 _ _ _ _ _)
   | (with_reducible exact numnahlaw06_ints.mono _ _ _)
   | (with_reducible exact numnahlaw06_some.mono _ _ _)
   | (with_reducible exact numnahlaw06_tame.mono _ _ _)
   | (with_reducible exact numnahlaw06_within.mono _ _ _)
   | (with_reducible exact numnahref06_List.mono _ _)
   | (with_reducible exact numnahref06_Set.mono _ _)
   | (with_reducible exact LeO.refl _)
   | (with_reducible exact LeO.none _)
   | (with_reducible refine LeO.ite ?_ ?_)
   | (with_reducible refine LeO.bind ?_ (fun _ => ?_))
   | exact ih0 _ _ _ _ _ _ _ _
   | exact ih1 _ _ _ _ _
   | exact ih2 _ _ _ _ _
   | exact numnahlaw06_ints.mono _ _ _
   | exact numnahlaw06_some.mono _ _ _
   | exact numnahlaw06_tame.mono _ _ _
   | exact numnahlaw06_within.mono _ _ _
   | exact numnahref06_List.mono _ _
   | exact numnahref06_Set.mono _ _
   | exact LeO.none _
   | refine LeO.ite ?_ ?_
   | refine LeO.bind ?_ (fun _ => ?_)
  ·intro y0 y1 y2 y3 y4
   unfold numnahlaw06_WettingGrows.j1
   repeat' first
   | (with_reducible exact ih0 _ _ _ _ _ _ _ _)
   | (with_reducible exact ih1 _ _ _ _ _)
   | (with_reducible exact ih2 _ _ _ _ _)
   | (with_reducible exact numnahlaw06_ints.mono _ _ _)
   | (with_reducible exact numnahlaw06_some.mono _ _ _)
   | (with_reducible exact numnahlaw06_tame.mono _ _ _)
   | (with_reducible exact numnahlaw06_within.mono _ _ _)
   | (with_reducible exact numnahref06_List.mono _ _)
   | (with_reducible exact numnahref06_Set.mono _ _)
   | (with_reducible exact LeO.refl _)
   | (with_reducible exact LeO.none _)
   | (with_reducible refine LeO.ite ?_ ?_)
   | (with_reducible refine LeO.bind ?_ (fun _ => ?_))
   | exact ih0 _ _ _ _ _ _ _ _
   | exact ih1 _ _ _ _ _
   | exact ih2 _ _ _ _ _
   | exact numnahlaw06_ints.mono _ _ _
   | exact numnahlaw06_some.mono _ _ _
   | exact numnahlaw06_tame.mono _ _ _
   | exact numnahlaw06_within.mono _ _ _
   | exact numnahref06_List.mono _ _
   | exact numnahref06_Set.mono _ _
   | exact LeO.none _
   | refine LeO.ite ?_ ?_
   | refine LeO.bind ?_ (fun _ => ?_)
  ·intro y0 y1 y2 y3 y4
   unfold numnahlaw06_WettingGrows.j2
   repeat' first
   | (with_reducible exact ih0 _ _ _ _ _ _ _ _)
   | (with_reducible exact ih1 _ _ _ _ _)
   | (with_reducible exact ih2 _ _ _ _ _)
   | (with_reducible exact numnahlaw06_ints.mono _ _ _)
   | (with_reducible exact numnahlaw06_some.mono _ _ _)
   | (with_reducible exact numnahlaw06_tame.mono _ _ _)
   | (with_reducible exact numnahlaw06_within.mono _ _ _)
   | (with_reducible exact numnahref06_List.mono _ _)
   | (with_reducible exact numnahref06_Set.mono _ _)
   | (with_reducible exact LeO.refl _)
   | (with_reducible exact LeO.none _)
   | (with_reducible refine LeO.ite ?_ ?_)
   | (with_reducible refine LeO.bind ?_ (fun _ => ?_))
   | exact ih0 _ _ _ _ _ _ _ _
   | exact ih1 _ _ _ _ _
   | exact ih2 _ _ _ _ _
   | exact numnahlaw06_ints.mono _ _ _
   | exact numnahlaw06_some.mono _ _ _
   | exact numnahlaw06_tame.mono _ _ _
   | exact numnahlaw06_within.mono _ _ _
   | exact numnahref06_List.mono _ _
   | exact numnahref06_Set.mono _ _
   | exact LeO.none _
   | refine LeO.ite ?_ ?_
   | refine LeO.bind ?_ (fun _ => ?_)
theorem numnahlaw06_WettingGrows.mono : ∀ a0 a1 a2 a3 a4 k, LeO (numnahlaw06_WettingGrows.f k a0 a1 a2 a3 a4) (numnahlaw06_WettingGrows.f (k + 1) a0 a1 a2 a3 a4) := by
 intro a0 a1 a2 a3 a4 k
 obtain ⟨ih0, ih1, ih2⟩ := numnahlaw06_WettingGrows.mono_l k
 unfold numnahlaw06_WettingGrows.f
 repeat' first
   | (with_reducible exact ih0 _ _ _ _ _ _ _ _)
   | (with_reducible exact ih1 _ _ _ _ _)
   | (with_reducible exact ih2 _ _ _ _ _)
   | (with_reducible exact numnahlaw06_ints.mono _ _ _)
   | (with_reducible exact numnahlaw06_some.mono _ _ _)
   | (with_reducible exact numnahlaw06_tame.mono _ _ _)
   | (with_reducible exact numnahlaw06_within.mono _ _ _)
   | (with_reducible exact numnahref06_List.mono _ _)
   | (with_reducible exact numnahref06_Set.mono _ _)
   | (with_reducible exact LeO.refl _)
   | (with_reducible exact LeO.none _)
   | (with_reducible refine LeO.ite ?_ ?_)
   | (with_reducible refine LeO.bind ?_ (fun _ => ?_))
   | exact ih0 _ _ _ _ _ _ _ _
   | exact ih1 _ _ _ _ _
   | exact ih2 _ _ _ _ _
   | exact numnahlaw06_ints.mono _ _ _
   | exact numnahlaw06_some.mono _ _ _
   | exact numnahlaw06_tame.mono _ _ _
   | exact numnahlaw06_within.mono _ _ _
   | exact numnahref06_List.mono _ _
   | exact numnahref06_Set.mono _ _
   | exact LeO.none _
   | refine LeO.ite ?_ ?_
   | refine LeO.bind ?_ (fun _ => ?_)
def numnahlaw06_WettingGrows.T4 : Bool × List (List Nat × List Nat) := (true, [([], []), ([0], [0]), ([], []), ([2], [2]), ([], []), ([3, 4, 1], [3, 4]), ([5], [5]), ([1, 6], [1, 6]), ([7, 5], [7]), ([8, 8, 0, 1, 2, 3, 4, 5, 6, 7, 8], [8])])
def numnahlaw06_WettingGrows.B4 : List Nat := [0, 1, 0, 4, 0, 31, 63, 127, 255, 511]
theorem numnahlaw06_WettingGrows.tab4 : rtab .any (opsOf Tryd.f13 4) = numnahlaw06_WettingGrows.T4 := by kernel_rfl
theorem numnahlaw06_WettingGrows.bits4 : waitsOk numnahlaw06_WettingGrows.T4.2 numnahlaw06_WettingGrows.B4 = true := by kernel_rfl
def numnahlaw06_WettingGrows.T17 : Bool × List (List Nat × List Nat) := (true, [([], []), ([0], [0]), ([1], [1]), ([2], [2]), ([2], [2]), ([3, 4, 2, 2], [2, 3, 4]), ([5, 5, 2], [2, 5]), ([6], [6]), ([7, 6, 6], [6, 7]), ([6], [6]), ([9, 8, 6], [6, 9]), ([8, 10, 6], [6, 8, 10]), ([6], [6]), ([12, 6], [6, 12]), ([13, 6], [6, 13]), ([11, 14, 6], [6, 11, 14]), ([6, 15, 2], [2, 6, 15]), ([2, 16], [2, 16]), ([17, 10], [17]), ([18, 18], [18]), ([18, 19], [18, 19]), ([20, 19, 0, 1, 2, 3, 4, 5, 6, 7, 8, 9, 10, 11, 12, 13, 14, 15, 16, 17, 18, 19, 20], [20])])
def numnahlaw06_WettingGrows.B17 : List Nat := [0, 1, 3, 7, 7, 31, 63, 127, 255, 127, 1023, 2047, 127, 4223, 12415, 32767, 65535, 131071, 262143, 524287, 1048575, 2097151]
theorem numnahlaw06_WettingGrows.tab17 : rtab .any (opsOf Tryd.f13 17) = numnahlaw06_WettingGrows.T17 := by kernel_rfl
theorem numnahlaw06_WettingGrows.bits17 : waitsOk numnahlaw06_WettingGrows.T17.2 numnahlaw06_WettingGrows.B17 = true := by kernel_rfl
set_option maxHeartbeats 8000000 in
set_option maxRecDepth 100000 in
theorem numnahlaw06_WettingGrows.calls (k : Nat) (a0 : Int) (A1 : Option Addr) (c1 : Nat) (l1 : List (S48)) (a2_0 : Int) (a2_1 : Int) (a2_2 : Int) (r : Bool) (w : World) (hr1 : Kd.C k48 w A1 l1.length l1) (hc1 : l1.length ≤ c1) (h : numnahlaw06_WettingGrows.f k a0 l1 a2_0 a2_1 a2_2 = some r) (hT : Tab w) :
  Calls Tryd.prog 13 #[.int .i64 a0, .slice A1 l1.length c1, .agg #[.int .i64 a2_0, .int .i64 a2_1, .int .i64 a2_2]] w fun e w' => e = .returned (.bool r) ∧ Below w.heap.size w w' := by
 have HT := Aside0.mk hT
 clear hT
 have hu64 := Tryd.underlying64
 have HR1 := Aside0.mk hr1
 have HC1 := Aside0.mk hc1
 clear hr1 hc1
 have HB := Aside0.mk (Below.refl w.heap.size w)
 have H : ((numnahlaw06_tame.f k a0 l1).bind fun bt652 => ((numnahlaw06_mod.f a2_2 6).bind fun t656 => ((numnahlaw06_some.f k bt652.1 a2_0).bind fun t657 => ((numnahref06_Set.f k t657).bind fun t660 => ((numnahlaw06_mod.f a2_1 bt652.1).bind fun t661 => (if 0 ≤ t661 then ((numnahref06_List.f k (Go.bits .or .i64 t660 (shl .i64 1 t661))).bind fun t662 => ((wetting_Close.f bt652.1 bt652.2 t657).bind fun bt665 => ((wetting_Close.f bt652.1 bt652.2 t662).bind fun bt670 => ((wetting_Soak.f bt652.1 bt652.2 t657 (wrap64 (1 + t656))).bind fun bt675 => ((wetting_Soak.f bt652.1 bt652.2 t662 (wrap64 (1 + t656))).bind fun bt680 => (if bt665.2.2 = 0 then (if bt670.2.2 = 0 then (if bt675.2.2 = 0 then (if bt680.2.2 = 0 then ((numnahlaw06_within.f k bt652.1 bt665.1).bind fun t685 => (if t685 = true then ((numnahlaw06_within.f k bt652.1 bt670.1).bind fun t686 => (if t686 = true then ((numnahlaw06_within.f k bt652.1 bt675.1).bind fun t687 => (if t687 = true then ((numnahlaw06_within.f k bt652.1 bt680.1).bind fun t688 => (numnahlaw06_WettingGrows.j0 k bt652.1 bt652.2 t657 bt665.1 bt670.1 bt675.1 bt680.1 (!t688))) else (numnahlaw06_WettingGrows.j0 k bt652.1 bt652.2 t657 bt665.1 bt670.1 bt675.1 bt680.1 true))) else (numnahlaw06_WettingGrows.j0 k bt652.1 bt652.2 t657 bt665.1 bt670.1 bt675.1 bt680.1 true))) else (numnahlaw06_WettingGrows.j0 k bt652.1 bt652.2 t657 bt665.1 bt670.1 bt675.1 bt680.1 true))) else (numnahlaw06_WettingGrows.j0 k bt652.1 bt652.2 t657 bt665.1 bt670.1 bt675.1 bt680.1 true)) else (numnahlaw06_WettingGrows.j0 k bt652.1 bt652.2 t657 bt665.1 bt670.1 bt675.1 bt680.1 true)) else (numnahlaw06_WettingGrows.j0 k bt652.1 bt652.2 t657 bt665.1 bt670.1 bt675.1 bt680.1 true)) else (numnahlaw06_WettingGrows.j0 k bt652.1 bt652.2 t657 bt665.1 bt670.1 bt675.1 bt680.1 true))))))) else (none))))))) = some r := h
 clear h
 replace H := Option.bind_eq_some_iff.mp H
 obtain ⟨⟨t652, t653⟩, A40, H⟩ := H
 replace H : ((numnahlaw06_mod.f a2_2 6).bind fun t656 => ((numnahlaw06_some.f k t652 a2_0).bind fun t657 => ((numnahref06_Set.f k t657).bind fun t660 => ((numnahlaw06_mod.f a2_1 t652).bind fun t661 => (if 0 ≤ t661 then ((numnahref06_List.f k (Go.bits .or .i64 t660 (shl .i64 1 t661))).bind fun t662 => ((wetting_Close.f t652 t653 t657).bind fun bt665 => ((wetting_Close.f t652 t653 t662).bind fun bt670 => ((wetting_Soak.f t652 t653 t657 (wrap64 (1 + t656))).bind fun bt675 => ((wetting_Soak.f t652 t653 t662 (wrap64 (1 + t656))).bind fun bt680 => (if bt665.2.2 = 0 then (if bt670.2.2 = 0 then (if bt675.2.2 = 0 then (if bt680.2.2 = 0 then ((numnahlaw06_within.f k t652 bt665.1).bind fun t685 => (if t685 = true then ((numnahlaw06_within.f k t652 bt670.1).bind fun t686 => (if t686 = true then ((numnahlaw06_within.f k t652 bt675.1).bind fun t687 => (if t687 = true then ((numnahlaw06_within.f k t652 bt680.1).bind fun t688 => (numnahlaw06_WettingGrows.j0 k t652 t653 t657 bt665.1 bt670.1 bt675.1 bt680.1 (!t688))) else (numnahlaw06_WettingGrows.j0 k t652 t653 t657 bt665.1 bt670.1 bt675.1 bt680.1 true))) else (numnahlaw06_WettingGrows.j0 k t652 t653 t657 bt665.1 bt670.1 bt675.1 bt680.1 true))) else (numnahlaw06_WettingGrows.j0 k t652 t653 t657 bt665.1 bt670.1 bt675.1 bt680.1 true))) else (numnahlaw06_WettingGrows.j0 k t652 t653 t657 bt665.1 bt670.1 bt675.1 bt680.1 true)) else (numnahlaw06_WettingGrows.j0 k t652 t653 t657 bt665.1 bt670.1 bt675.1 bt680.1 true)) else (numnahlaw06_WettingGrows.j0 k t652 t653 t657 bt665.1 bt670.1 bt675.1 bt680.1 true)) else (numnahlaw06_WettingGrows.j0 k t652 t653 t657 bt665.1 bt670.1 bt675.1 bt680.1 true))))))) else (none)))))) = some r := H
 have A4 := Aside0.mk A40
 clear A40
 replace H := Option.bind_eq_some_iff.mp H
 obtain ⟨t656, A50, H⟩ := H
 replace H : ((numnahlaw06_some.f k t652 a2_0).bind fun t657 => ((numnahref06_Set.f k t657).bind fun t660 => ((numnahlaw06_mod.f a2_1 t652).bind fun t661 => (if 0 ≤ t661 then ((numnahref06_List.f k (Go.bits .or .i64 t660 (shl .i64 1 t661))).bind fun t662 => ((wetting_Close.f t652 t653 t657).bind fun bt665 => ((wetting_Close.f t652 t653 t662).bind fun bt670 => ((wetting_Soak.f t652 t653 t657 (wrap64 (1 + t656))).bind fun bt675 => ((wetting_Soak.f t652 t653 t662 (wrap64 (1 + t656))).bind fun bt680 => (if bt665.2.2 = 0 then (if bt670.2.2 = 0 then (if bt675.2.2 = 0 then (if bt680.2.2 = 0 then ((numnahlaw06_within.f k t652 bt665.1).bind fun t685 => (if t685 = true then ((numnahlaw06_within.f k t652 bt670.1).bind fun t686 => (if t686 = true then ((numnahlaw06_within.f k t652 bt675.1).bind fun t687 => (if t687 = true then ((numnahlaw06_within.f k t652 bt680.1).bind fun t688 => (numnahlaw06_WettingGrows.j0 k t652 t653 t657 bt665.1 bt670.1 bt675.1 bt680.1 (!t688))) else (numnahlaw06_WettingGrows.j0 k t652 t653 t657 bt665.1 bt670.1 bt675.1 bt680.1 true))) else (numnahlaw06_WettingGrows.j0 k t652 t653 t657 bt665.1 bt670.1 bt675.1 bt680.1 true))) else (numnahlaw06_WettingGrows.j0 k t652 t653 t657 bt665.1 bt670.1 bt675.1 bt680.1 true))) else (numnahlaw06_WettingGrows.j0 k t652 t653 t657 bt665.1 bt670.1 bt675.1 bt680.1 true)) else (numnahlaw06_WettingGrows.j0 k t652 t653 t657 bt665.1 bt670.1 bt675.1 bt680.1 true)) else (numnahlaw06_WettingGrows.j0 k t652 t653 t657 bt665.1 bt670.1 bt675.1 bt680.1 true)) else (numnahlaw06_WettingGrows.j0 k t652 t653 t657 bt665.1 bt670.1 bt675.1 bt680.1 true))))))) else (none))))) = some r := H
 have A5 := Aside0.mk A50
 clear A50
 replace H := Option.bind_eq_some_iff.mp H
 obtain ⟨t657, A60, H⟩ := H
 replace H : ((numnahref06_Set.f k t657).bind fun t660 => ((numnahlaw06_mod.f a2_1 t652).bind fun t661 => (if 0 ≤ t661 then ((numnahref06_List.f k (Go.bits .or .i64 t660 (shl .i64 1 t661))).bind fun t662 => ((wetting_Close.f t652 t653 t657).bind fun bt665 => ((wetting_Close.f t652 t653 t662).bind fun bt670 => ((wetting_Soak.f t652 t653 t657 (wrap64 (1 + t656))).bind fun bt675 => ((wetting_Soak.f t652 t653 t662 (wrap64 (1 + t656))).bind fun bt680 => (if bt665.2.2 = 0 then (if bt670.2.2 = 0 then (if bt675.2.2 = 0 then (if bt680.2.2 = 0 then ((numnahlaw06_within.f k t652 bt665.1).bind fun t685 => (if t685 = true then ((numnahlaw06_within.f k t652 bt670.1).bind fun t686 => (if t686 = true then ((numnahlaw06_within.f k t652 bt675.1).bind fun t687 => (if t687 = true then ((numnahlaw06_within.f k t652 bt680.1).bind fun t688 => (numnahlaw06_WettingGrows.j0 k t652 t653 t657 bt665.1 bt670.1 bt675.1 bt680.1 (!t688))) else (numnahlaw06_WettingGrows.j0 k t652 t653 t657 bt665.1 bt670.1 bt675.1 bt680.1 true))) else (numnahlaw06_WettingGrows.j0 k t652 t653 t657 bt665.1 bt670.1 bt675.1 bt680.1 true))) else (numnahlaw06_WettingGrows.j0 k t652 t653 t657 bt665.1 bt670.1 bt675.1 bt680.1 true))) else (numnahlaw06_WettingGrows.j0 k t652 t653 t657 bt665.1 bt670.1 bt675.1 bt680.1 true)) else (numnahlaw06_WettingGrows.j0 k t652 t653 t657 bt665.1 bt670.1 bt675.1 bt680.1 true)) else (numnahlaw06_WettingGrows.j0 k t652 t653 t657 bt665.1 bt670.1 bt675.1 bt680.1 true)) else (numnahlaw06_WettingGrows.j0 k t652 t653 t657 bt665.1 bt670.1 bt675.1 bt680.1 true))))))) else (none)))) = some r := H
 have A6 := Aside0.mk A60
 clear A60
 replace H := Option.bind_eq_some_iff.mp H
 obtain ⟨t660, A70, H⟩ := H
 replace H : ((numnahlaw06_mod.f a2_1 t652).bind fun t661 => (if 0 ≤ t661 then ((numnahref06_List.f k (Go.bits .or .i64 t660 (shl .i64 1 t661))).bind fun t662 => ((wetting_Close.f t652 t653 t657).bind fun bt665 => ((wetting_Close.f t652 t653 t662).bind fun bt670 => ((wetting_Soak.f t652 t653 t657 (wrap64 (1 + t656))).bind fun bt675 => ((wetting_Soak.f t652 t653 t662 (wrap64 (1 + t656))).bind fun bt680 => (if bt665.2.2 = 0 then (if bt670.2.2 = 0 then (if bt675.2.2 = 0 then (if bt680.2.2 = 0 then ((numnahlaw06_within.f k t652 bt665.1).bind fun t685 => (if t685 = true then ((numnahlaw06_within.f k t652 bt670.1).bind fun t686 => (if t686 = true then ((numnahlaw06_within.f k t652 bt675.1).bind fun t687 => (if t687 = true then ((numnahlaw06_within.f k t652 bt680.1).bind fun t688 => (numnahlaw06_WettingGrows.j0 k t652 t653 t657 bt665.1 bt670.1 bt675.1 bt680.1 (!t688))) else (numnahlaw06_WettingGrows.j0 k t652 t653 t657 bt665.1 bt670.1 bt675.1 bt680.1 true))) else (numnahlaw06_WettingGrows.j0 k t652 t653 t657 bt665.1 bt670.1 bt675.1 bt680.1 true))) else (numnahlaw06_WettingGrows.j0 k t652 t653 t657 bt665.1 bt670.1 bt675.1 bt680.1 true))) else (numnahlaw06_WettingGrows.j0 k t652 t653 t657 bt665.1 bt670.1 bt675.1 bt680.1 true)) else (numnahlaw06_WettingGrows.j0 k t652 t653 t657 bt665.1 bt670.1 bt675.1 bt680.1 true)) else (numnahlaw06_WettingGrows.j0 k t652 t653 t657 bt665.1 bt670.1 bt675.1 bt680.1 true)) else (numnahlaw06_WettingGrows.j0 k t652 t653 t657 bt665.1 bt670.1 bt675.1 bt680.1 true))))))) else (none))) = some r := H
 have A7 := Aside0.mk A70
 clear A70
 replace H := Option.bind_eq_some_iff.mp H
 obtain ⟨t661, A80, H⟩ := H
 replace H : (if 0 ≤ t661 then ((numnahref06_List.f k (Go.bits .or .i64 t660 (shl .i64 1 t661))).bind fun t662 => ((wetting_Close.f t652 t653 t657).bind fun bt665 => ((wetting_Close.f t652 t653 t662).bind fun bt670 => ((wetting_Soak.f t652 t653 t657 (wrap64 (1 + t656))).bind fun bt675 => ((wetting_Soak.f t652 t653 t662 (wrap64 (1 + t656))).bind fun bt680 => (if bt665.2.2 = 0 then (if bt670.2.2 = 0 then (if bt675.2.2 = 0 then (if bt680.2.2 = 0 then ((numnahlaw06_within.f k t652 bt665.1).bind fun t685 => (if t685 = true then ((numnahlaw06_within.f k t652 bt670.1).bind fun t686 => (if t686 = true then ((numnahlaw06_within.f k t652 bt675.1).bind fun t687 => (if t687 = true then ((numnahlaw06_within.f k t652 bt680.1).bind fun t688 => (numnahlaw06_WettingGrows.j0 k t652 t653 t657 bt665.1 bt670.1 bt675.1 bt680.1 (!t688))) else (numnahlaw06_WettingGrows.j0 k t652 t653 t657 bt665.1 bt670.1 bt675.1 bt680.1 true))) else (numnahlaw06_WettingGrows.j0 k t652 t653 t657 bt665.1 bt670.1 bt675.1 bt680.1 true))) else (numnahlaw06_WettingGrows.j0 k t652 t653 t657 bt665.1 bt670.1 bt675.1 bt680.1 true))) else (numnahlaw06_WettingGrows.j0 k t652 t653 t657 bt665.1 bt670.1 bt675.1 bt680.1 true)) else (numnahlaw06_WettingGrows.j0 k t652 t653 t657 bt665.1 bt670.1 bt675.1 bt680.1 true)) else (numnahlaw06_WettingGrows.j0 k t652 t653 t657 bt665.1 bt670.1 bt675.1 bt680.1 true)) else (numnahlaw06_WettingGrows.j0 k t652 t653 t657 bt665.1 bt670.1 bt675.1 bt680.1 true))))))) else (none)) = some r := H
 have A8 := Aside0.mk A80
 clear A80
 by_cases c9 : 0 ≤ t661
 ·rw [if_pos c9] at H
  have c9b0 := eq_true c9
  have c9b1 : decide (0 ≤ t661) = true := decide_eq_true c9
  clear c9
  obtain ⟨ji10, hji10⟩ : ∃ j_ : Int, (shl .i64 1 t661) = j_ := ⟨_, rfl⟩
  replace H : ((numnahref06_List.f k (Go.bits .or .i64 t660 (ji10))).bind fun t662 => ((wetting_Close.f t652 t653 t657).bind fun bt665 => ((wetting_Close.f t652 t653 t662).bind fun bt670 => ((wetting_Soak.f t652 t653 t657 (wrap64 (1 + t656))).bind fun bt675 => ((wetting_Soak.f t652 t653 t662 (wrap64 (1 + t656))).bind fun bt680 => (if bt665.2.2 = 0 then (if bt670.2.2 = 0 then (if bt675.2.2 = 0 then (if bt680.2.2 = 0 then ((numnahlaw06_within.f k t652 bt665.1).bind fun t685 => (if t685 = true then ((numnahlaw06_within.f k t652 bt670.1).bind fun t686 => (if t686 = true then ((numnahlaw06_within.f k t652 bt675.1).bind fun t687 => (if t687 = true then ((numnahlaw06_within.f k t652 bt680.1).bind fun t688 => (numnahlaw06_WettingGrows.j0 k t652 t653 t657 bt665.1 bt670.1 bt675.1 bt680.1 (!t688))) else (numnahlaw06_WettingGrows.j0 k t652 t653 t657 bt665.1 bt670.1 bt675.1 bt680.1 true))) else (numnahlaw06_WettingGrows.j0 k t652 t653 t657 bt665.1 bt670.1 bt675.1 bt680.1 true))) else (numnahlaw06_WettingGrows.j0 k t652 t653 t657 bt665.1 bt670.1 bt675.1 bt680.1 true))) else (numnahlaw06_WettingGrows.j0 k t652 t653 t657 bt665.1 bt670.1 bt675.1 bt680.1 true)) else (numnahlaw06_WettingGrows.j0 k t652 t653 t657 bt665.1 bt670.1 bt675.1 bt680.1 true)) else (numnahlaw06_WettingGrows.j0 k t652 t653 t657 bt665.1 bt670.1 bt675.1 bt680.1 true)) else (numnahlaw06_WettingGrows.j0 k t652 t653 t657 bt665.1 bt670.1 bt675.1 bt680.1 true))))))) = some r := by first | (rw [hji10] at H; exact H) | (simp only [hji10] at H ⊢; exact H)
  (try rw [hji10] at A4)
  (try rw [hji10] at A5)
  (try rw [hji10] at A6)
  (try rw [hji10] at A7)
  (try rw [hji10] at A8)
  have hji10_ : (IntKind.i64.wrap (1 * 2 ^ min t661.toNat 64)) = ji10 := hji10
  have hji10z : t661 ≤ 64 → (IntKind.i64.wrap (1 * 2 ^ t661.toNat)) = ji10 := shl_small hji10
  have hji10u : (IntKind.i64.wrap (2 ^ min t661.toNat 64)) = ji10 := by have h_ := hji10_; rw [Int.one_mul] at h_; exact h_
  have hji10v : t661 ≤ 64 → (IntKind.i64.wrap (2 ^ t661.toNat)) = ji10 := fun hle_ => by have h_ := hji10z hle_; rw [Int.one_mul] at h_; exact h_
  have hji10y : (wrap64 (1 * 2 ^ min t661.toNat 64)) = ji10 := (i64_w _).symm.trans hji10_
  have hji10x : t661 ≤ 64 → (wrap64 (1 * 2 ^ t661.toNat)) = ji10 := fun h_ => (i64_w _).symm.trans (hji10z h_)
  replace H := Option.bind_eq_some_iff.mp H
  obtain ⟨t662, A110, H⟩ := H
  replace H : ((wetting_Close.f t652 t653 t657).bind fun bt665 => ((wetting_Close.f t652 t653 t662).bind fun bt670 => ((wetting_Soak.f t652 t653 t657 (wrap64 (1 + t656))).bind fun bt675 => ((wetting_Soak.f t652 t653 t662 (wrap64 (1 + t656))).bind fun bt680 => (if bt665.2.2 = 0 then (if bt670.2.2 = 0 then (if bt675.2.2 = 0 then (if bt680.2.2 = 0 then ((numnahlaw06_within.f k t652 bt665.1).bind fun t685 => (if t685 = true then ((numnahlaw06_within.f k t652 bt670.1).bind fun t686 => (if t686 = true then ((numnahlaw06_within.f k t652 bt675.1).bind fun t687 => (if t687 = true then ((numnahlaw06_within.f k t652 bt680.1).bind fun t688 => (numnahlaw06_WettingGrows.j0 k t652 t653 t657 bt665.1 bt670.1 bt675.1 bt680.1 (!t688))) else (numnahlaw06_WettingGrows.j0 k t652 t653 t657 bt665.1 bt670.1 bt675.1 bt680.1 true))) else (numnahlaw06_WettingGrows.j0 k t652 t653 t657 bt665.1 bt670.1 bt675.1 bt680.1 true))) else (numnahlaw06_WettingGrows.j0 k t652 t653 t657 bt665.1 bt670.1 bt675.1 bt680.1 true))) else (numnahlaw06_WettingGrows.j0 k t652 t653 t657 bt665.1 bt670.1 bt675.1 bt680.1 true)) else (numnahlaw06_WettingGrows.j0 k t652 t653 t657 bt665.1 bt670.1 bt675.1 bt680.1 true)) else (numnahlaw06_WettingGrows.j0 k t652 t653 t657 bt665.1 bt670.1 bt675.1 bt680.1 true)) else (numnahlaw06_WettingGrows.j0 k t652 t653 t657 bt665.1 bt670.1 bt675.1 bt680.1 true)))))) = some r := H
  have A11 := Aside0.mk A110
  clear A110
  replace H := Option.bind_eq_some_iff.mp H
  obtain ⟨⟨t665, t666, t667⟩, A120, H⟩ := H
  replace H : ((wetting_Close.f t652 t653 t662).bind fun bt670 => ((wetting_Soak.f t652 t653 t657 (wrap64 (1 + t656))).bind fun bt675 => ((wetting_Soak.f t652 t653 t662 (wrap64 (1 + t656))).bind fun bt680 => (if t667 = 0 then (if bt670.2.2 = 0 then (if bt675.2.2 = 0 then (if bt680.2.2 = 0 then ((numnahlaw06_within.f k t652 t665).bind fun t685 => (if t685 = true then ((numnahlaw06_within.f k t652 bt670.1).bind fun t686 => (if t686 = true then ((numnahlaw06_within.f k t652 bt675.1).bind fun t687 => (if t687 = true then ((numnahlaw06_within.f k t652 bt680.1).bind fun t688 => (numnahlaw06_WettingGrows.j0 k t652 t653 t657 t665 bt670.1 bt675.1 bt680.1 (!t688))) else (numnahlaw06_WettingGrows.j0 k t652 t653 t657 t665 bt670.1 bt675.1 bt680.1 true))) else (numnahlaw06_WettingGrows.j0 k t652 t653 t657 t665 bt670.1 bt675.1 bt680.1 true))) else (numnahlaw06_WettingGrows.j0 k t652 t653 t657 t665 bt670.1 bt675.1 bt680.1 true))) else (numnahlaw06_WettingGrows.j0 k t652 t653 t657 t665 bt670.1 bt675.1 bt680.1 true)) else (numnahlaw06_WettingGrows.j0 k t652 t653 t657 t665 bt670.1 bt675.1 bt680.1 true)) else (numnahlaw06_WettingGrows.j0 k t652 t653 t657 t665 bt670.1 bt675.1 bt680.1 true)) else (numnahlaw06_WettingGrows.j0 k t652 t653 t657 t665 bt670.1 bt675.1 bt680.1 true))))) = some r := H
  have A12 := Aside0.mk A120
  clear A120
  replace H := Option.bind_eq_some_iff.mp H
  obtain ⟨⟨t670, t671, t672⟩, A130, H⟩ := H
  replace H : ((wetting_Soak.f t652 t653 t657 (wrap64 (1 + t656))).bind fun bt675 => ((wetting_Soak.f t652 t653 t662 (wrap64 (1 + t656))).bind fun bt680 => (if t667 = 0 then (if t672 = 0 then (if bt675.2.2 = 0 then (if bt680.2.2 = 0 then ((numnahlaw06_within.f k t652 t665).bind fun t685 => (if t685 = true then ((numnahlaw06_within.f k t652 t670).bind fun t686 => (if t686 = true then ((numnahlaw06_within.f k t652 bt675.1).bind fun t687 => (if t687 = true then ((numnahlaw06_within.f k t652 bt680.1).bind fun t688 => (numnahlaw06_WettingGrows.j0 k t652 t653 t657 t665 t670 bt675.1 bt680.1 (!t688))) else (numnahlaw06_WettingGrows.j0 k t652 t653 t657 t665 t670 bt675.1 bt680.1 true))) else (numnahlaw06_WettingGrows.j0 k t652 t653 t657 t665 t670 bt675.1 bt680.1 true))) else (numnahlaw06_WettingGrows.j0 k t652 t653 t657 t665 t670 bt675.1 bt680.1 true))) else (numnahlaw06_WettingGrows.j0 k t652 t653 t657 t665 t670 bt675.1 bt680.1 true)) else (numnahlaw06_WettingGrows.j0 k t652 t653 t657 t665 t670 bt675.1 bt680.1 true)) else (numnahlaw06_WettingGrows.j0 k t652 t653 t657 t665 t670 bt675.1 bt680.1 true)) else (numnahlaw06_WettingGrows.j0 k t652 t653 t657 t665 t670 bt675.1 bt680.1 true)))) = some r := H
  have A13 := Aside0.mk A130
  clear A130
  replace H := Option.bind_eq_some_iff.mp H
  obtain ⟨⟨t675, t676, t677⟩, A140, H⟩ := H
  replace H : ((wetting_Soak.f t652 t653 t662 (wrap64 (1 + t656))).bind fun bt680 => (if t667 = 0 then (if t672 = 0 then (if t677 = 0 then (if bt680.2.2 = 0 then ((numnahlaw06_within.f k t652 t665).bind fun t685 => (if t685 = true then ((numnahlaw06_within.f k t652 t670).bind fun t686 => (if t686 = true then ((numnahlaw06_within.f k t652 t675).bind fun t687 => (if t687 = true then ((numnahlaw06_within.f k t652 bt680.1).bind fun t688 => (numnahlaw06_WettingGrows.j0 k t652 t653 t657 t665 t670 t675 bt680.1 (!t688))) else (numnahlaw06_WettingGrows.j0 k t652 t653 t657 t665 t670 t675 bt680.1 true))) else (numnahlaw06_WettingGrows.j0 k t652 t653 t657 t665 t670 t675 bt680.1 true))) else (numnahlaw06_WettingGrows.j0 k t652 t653 t657 t665 t670 t675 bt680.1 true))) else (numnahlaw06_WettingGrows.j0 k t652 t653 t657 t665 t670 t675 bt680.1 true)) else (numnahlaw06_WettingGrows.j0 k t652 t653 t657 t665 t670 t675 bt680.1 true)) else (numnahlaw06_WettingGrows.j0 k t652 t653 t657 t665 t670 t675 bt680.1 true)) else (numnahlaw06_WettingGrows.j0 k t652 t653 t657 t665 t670 t675 bt680.1 true))) = some r := H
  have A14 := Aside0.mk A140
  clear A140
  replace H := Option.bind_eq_some_iff.mp H
  obtain ⟨⟨t680, t681, t682⟩, A150, H⟩ := H
  replace H : (if t667 = 0 then (if t672 = 0 then (if t677 = 0 then (if t682 = 0 then ((numnahlaw06_within.f k t652 t665).bind fun t685 => (if t685 = true then ((numnahlaw06_within.f k t652 t670).bind fun t686 => (if t686 = true then ((numnahlaw06_within.f k t652 t675).bind fun t687 => (if t687 = true then ((numnahlaw06_within.f k t652 t680).bind fun t688 => (numnahlaw06_WettingGrows.j0 k t652 t653 t657 t665 t670 t675 t680 (!t688))) else (numnahlaw06_WettingGrows.j0 k t652 t653 t657 t665 t670 t675 t680 true))) else (numnahlaw06_WettingGrows.j0 k t652 t653 t657 t665 t670 t675 t680 true))) else (numnahlaw06_WettingGrows.j0 k t652 t653 t657 t665 t670 t675 t680 true))) else (numnahlaw06_WettingGrows.j0 k t652 t653 t657 t665 t670 t675 t680 true)) else (numnahlaw06_WettingGrows.j0 k t652 t653 t657 t665 t670 t675 t680 true)) else (numnahlaw06_WettingGrows.j0 k t652 t653 t657 t665 t670 t675 t680 true)) else (numnahlaw06_WettingGrows.j0 k t652 t653 t657 t665 t670 t675 t680 true)) = some r := H
  have A15 := Aside0.mk A150
  clear A150
  have HC16 := Aside0.mk H
  clear H
  go_enter Tryd.func13, Tryd.ntmps13
  try go_wp2_with (first | ((with_reducible refine gate_dst (N := 5) rfl ?_); (try (refine gate_guard (by rfl) ?_; dsimp only)); refine box_event ?hg (N := 5) ?hd (cs := #[.int .i64 a2_0, .int .i64 a2_1, .int .i64 a2_2]) (t := 64) ?hr ?_; (case hd => rfl); (case hg => rfl); (case hr => first | (go_simp; done) | (go_simp; rfl)); intro gb651 hg w17 hbox hb; have n0_ := Aside0.mk (below_step (by repeat (first | (with_reducible first | exact HB.out | apply below_alloc | apply pw_below_drewN | apply below_drew1) | exact HB.out)) hb); have n1_ := Aside0.mk (hbox); have n2_ := Aside0.mk ((by rw [hg]; exact (below_size (by repeat (first | (with_reducible first | exact HB.out | apply below_alloc | apply pw_below_drewN | apply below_drew1) | exact HB.out))) : w.heap.size ≤ gb651)); have n3_ := Aside0.mk ((by rw [hg]; exact (below_size (by repeat (first | (with_reducible first | exact HB.out | apply below_alloc | apply pw_below_drewN | apply below_drew1) | exact HB.out))) : w.heap.size ≤ gb651)); clear HB; have HB := n0_; have BK651 := n1_; have GW651 := n2_; have GE651 := n3_; clear n0_ n1_ n2_ n3_; clear hb hbox hg) | ((with_reducible refine gate_callee (f := 27) rfl ?_); refine goesL_ (some 31) rfl rfl Tryd.func27 (by kernel_rfl) rfl #[.int .i64 a0, .slice A1 l1.length c1] rfl (by (try simp only [List.map_toArray, List.map_cons, List.map_nil]); first | done | rfl | (simp only [List.length_drop, List.length_take]; rfl)) ?_; (with_reducible refine (numnahlaw06_tame.calls k a0 _ _ l1 t652 t653 _ ?side1 ?side2 A4.out).mono ?_); (case side1 => repeat (first | exact (Kd.C_below HR1.out HB.out) | (with_reducible refine Kd.C_alloc ?_ _) | (with_reducible refine Kd.C_drewN ?_ _) | (with_reducible refine Kd.C_drew ?_))); (case side2 => exact HC1.out); rintro e w18 ⟨v654, rfl, ho0, hb⟩; refine ⟨_, rfl, ?_⟩; have n0_ := Aside0.mk (Kd.R_lower ho0 (below_size (by repeat (first | (with_reducible first | exact HB.out | apply below_alloc | apply pw_below_drewN | apply below_drew1 | refine below_set ?_ GE651.out) | exact HB.out)))); have n1_ := Aside0.mk (blk_below (g := gb651) (o := .cells #[.int .i64 a2_0, .int .i64 a2_1, .int .i64 a2_2] 64 (0, 0)) (by (with_reducible repeat (first | refine blk_drewN ?_ _ | refine blk_drew ?_ | refine blk_alloc ?_ _)); exact BK651.out) hb); have n2_ := Aside0.mk (below_step (by repeat (first | (with_reducible first | exact HB.out | apply below_alloc | apply pw_below_drewN | apply below_drew1 | refine below_set ?_ GE651.out) | exact HB.out)) hb); clear BK651; clear HB; have HO655 := n0_; have BK651 := n1_; have HB := n2_; clear n0_ n1_ n2_; (try clear hb); (try clear hb2); (try clear hk); (try clear hi); (try clear ho0); have hcz19_0 : w18.cell? ⟨gb651, 0, none⟩ = some (.int .i64 a2_0) := (blk_cell BK651.out 0).trans rfl; have hcz19_1 : w18.cell? ⟨gb651, 1, none⟩ = some (.int .i64 a2_1) := (blk_cell BK651.out 1).trans rfl; have hcz19_2 : w18.cell? ⟨gb651, 2, none⟩ = some (.int .i64 a2_2) := (blk_cell BK651.out 2).trans rfl; have hfz19_0 := blk_frozen BK651.out 0; have hfz19_1 := blk_frozen BK651.out 1; have hfz19_2 := blk_frozen BK651.out 2) | ((with_reducible refine gate_callee (f := 33) rfl ?_); refine goesL_ (some 36) rfl rfl Tryd.func33 (by kernel_rfl) rfl #[.int .i64 a2_2, .int .i64 6] rfl (by (try simp only [List.map_toArray, List.map_cons, List.map_nil]); first | done | rfl | (simp only [List.length_drop, List.length_take]; rfl)) ?_; (with_reducible refine (numnahlaw06_mod.calls a2_2 6 t656 _ A5.out).mono ?_); rintro e w' ⟨rfl, ⟨nd, rfl⟩⟩; refine ⟨_, rfl, ?_⟩) | ((with_reducible refine gate_callee (f := 28) rfl ?_); refine goesL_ (some 41) rfl rfl Tryd.func28 (by kernel_rfl) rfl #[.int .i64 t652, .int .i64 a2_0] rfl (by (try simp only [List.map_toArray, List.map_cons, List.map_nil]); first | done | rfl | (simp only [List.length_drop, List.length_take]; rfl)) ?_; (with_reducible refine (numnahlaw06_some.calls k t652 a2_0 t657 _ A6.out).mono ?_); rintro e w20 ⟨v658, rfl, ho0, hb⟩; refine ⟨_, rfl, ?_⟩; have n0_ := Aside0.mk (Kd.R_below (by (with_reducible repeat (first | apply Kd.R_alloc | apply Kd.R_drewN | apply Kd.R_drew)); exact HO655.out) hb); have n1_ := Aside0.mk (Kd.R_lower ho0 (below_size (by repeat (first | (with_reducible first | exact HB.out | apply below_alloc | apply pw_below_drewN | apply below_drew1 | refine below_set ?_ GE651.out) | exact HB.out)))); have n2_ := Aside0.mk (blk_below (g := gb651) (o := .cells #[.int .i64 a2_0, .int .i64 a2_1, .int .i64 a2_2] 64 (0, 0)) (by (with_reducible repeat (first | refine blk_drewN ?_ _ | refine blk_drew ?_ | refine blk_alloc ?_ _)); exact BK651.out) hb); have n3_ := Aside0.mk (below_step (by repeat (first | (with_reducible first | exact HB.out | apply below_alloc | apply pw_below_drewN | apply below_drew1 | refine below_set ?_ GE651.out) | exact HB.out)) hb); clear HO655; clear BK651; clear HB; have HO655 := n0_; have HO659 := n1_; have BK651 := n2_; have HB := n3_; clear n0_ n1_ n2_ n3_; (try clear hb); (try clear hb2); (try clear hk); (try clear hi); (try clear ho0)))
  have n0_ := Aside0.mk (Kd.R_drew HO655.out)
  have n1_ := Aside0.mk (Kd.R_drew HO659.out)
  have n2_ := Aside0.mk (blk_drew BK651.out)
  have n3_ := Aside0.mk (below_drew1 HB.out)
  clear HO655
  clear HO659
  clear BK651
  clear HB
  have HO655 := n0_
  have HO659 := n1_
  have BK651 := n2_
  have HB := n3_
  clear n0_ n1_ n2_ n3_
  obtain ⟨Ao22, co22, eo22⟩ := Kd.R_slice HO659.out
  (first | subst eo22 | (injection eo22 with f1_ f2_ f3_; have f4_ := f1_.symm; have f5_ := f3_.symm; clear f1_ f2_ f3_; subst f4_; subst f5_))
  refine start_ (n := 10) (S := fun w' => w'.cell? ⟨gb651, 0, none⟩ = some (.int .i64 a2_0) ∧ w'.cell? ⟨gb651, 1, none⟩ = some (.int .i64 a2_1) ∧ w'.cell? ⟨gb651, 2, none⟩ = some (.int .i64 a2_2)) (ds := []) #[false, false, false, false, false, false, false, false, false, false] (by kernel_rfl) rfl rfl ⟨(blk_cell BK651.out 0).trans rfl, (blk_cell BK651.out 1).trans rfl, (blk_cell BK651.out 2).trans rfl⟩ (fun hHeld => ?_); refine with_tabW numnahlaw06_WettingGrows.tab4 numnahlaw06_WettingGrows.bits4 (fun HT_ HW_ => ?_)
  generalize w20.drew = w21 at HO655 HO659 BK651 HB hHeld ⊢
  refine pure_ (i := 0) (N := some 42) (v := ?_) (a' := ?_) #[true, false, false, false, false, false, false, false, false, false] rfl rfl (any_of HT_.out (by kernel_rfl)) (fun _ _ _ h => h) (Or.inl ⟨by rfl, ?_⟩) ?_ ?_
  rotate_left
  ·intro w'
   go_simp
   with_reducible rfl
  rotate_left
  ·simp only [Act.put, List.setIfInBounds_toArray, List.set_cons_zero, List.set_cons_succ, i64_w, i32_w]
   rfl
  refine pure_ (i := 2) (N := some 44) (v := ?_) (a' := ?_) #[true, false, true, false, false, false, false, false, false, false] rfl rfl (any_of HT_.out (by kernel_rfl)) (fun _ _ _ h => h) (Or.inl ⟨by rfl, ?_⟩) ?_ ?_
  rotate_left
  ·intro w'
   go_simp
   with_reducible rfl
  rotate_left
  ·simp only [Act.put, List.setIfInBounds_toArray, List.set_cons_zero, List.set_cons_succ, i64_w, i32_w]
   rfl
  refine pure_ (i := 4) (N := some 46) (v := ?_) (a' := ?_) #[true, false, true, false, true, false, false, false, false, false] rfl rfl (any_of HT_.out (by kernel_rfl)) (fun _ _ _ h => h) (Or.inl ⟨by rfl, ?_⟩) ?_ ?_
  rotate_left
  ·intro w'
   go_simp
   with_reducible rfl
  rotate_left
  ·simp only [Act.put, List.setIfInBounds_toArray, List.set_cons_zero, List.set_cons_succ, i64_w, i32_w]
   rfl
  refine take_ (i := 3) (N := some 45) (v := ?_) (a' := ?_) #[true, false, true, true, true, false, false, false, false, false] rfl rfl (take_ofW HT_.out HW_.out (by kernel_rfl)) (fun _ _ _ h => h) (Or.inl ⟨by rfl, ?_⟩) hHeld ?_ ?_
  rotate_left
  ·rintro w' ⟨s0, s1, s2⟩
   go_simp
   with_reducible rfl
  rotate_left
  ·simp only [Act.put, List.setIfInBounds_toArray, List.set_cons_zero, List.set_cons_succ, i64_w, i32_w]
   rfl
  refine one_ (i := 1) (N := some 43) #[true, true, true, true, true, false, false, false, false, false] rfl rfl (one_of HT_.out (by kernel_rfl)) (by decide) (fun K hK => ?_)
  refine goes_ Tryd.func32 (by kernel_rfl) rfl #[.slice Ao22 t657.length co22] (by rfl) rfl rfl (by (try simp only [List.map_toArray, List.map_cons, List.map_nil]); first | done | rfl | (simp only [List.length_drop, List.length_take]; rfl)) ?_
  with_reducible refine (numnahref06_Set.calls k _ _ t657 t660 _ ?side1 ?side2 A7.out).mono ?_
  (case side1 => repeat (first | exact (Kd.R_reads' HO659.out).2.2 | (with_reducible refine Kd.C_alloc ?_ _) | (with_reducible refine Kd.C_drewN ?_ _) | (with_reducible refine Kd.C_drew ?_)))
  (case side2 => exact (Kd.R_reads' HO659.out).2.1)
  rintro e w' ⟨rfl, ⟨nd, rfl⟩⟩
  refine ⟨_, rfl, ?_⟩
  refine hK.out _ _ ⟨(blk_cell BK651.out 0).trans rfl, (blk_cell BK651.out 1).trans rfl, (blk_cell BK651.out 2).trans rfl⟩ (fun hHeld => ?_)
  clear hK K
  refine norm_ (a' := ?_) ?_ ?_
  rotate_left
  ·show Act.put _ (some 43) _ = _
   simp only [Act.put, List.setIfInBounds_toArray, List.set_cons_zero, List.set_cons_succ, i64_w, i32_w]
   rfl
  refine one_ (i := 5) (N := some 47) #[true, true, true, true, true, true, false, false, false, false] rfl rfl (one_of HT_.out (by kernel_rfl)) (by decide) (fun K hK => ?_)
  refine goes_ Tryd.func33 (by kernel_rfl) rfl #[.int .i64 a2_1, .int .i64 t652] (by rfl) rfl rfl (by (try simp only [List.map_toArray, List.map_cons, List.map_nil]); first | done | rfl | (simp only [List.length_drop, List.length_take]; rfl)) ?_
  with_reducible refine (numnahlaw06_mod.calls a2_1 t652 t661 _ A8.out).mono ?_
  rintro e w' ⟨rfl, ⟨nd, rfl⟩⟩
  refine ⟨_, rfl, ?_⟩
  refine hK.out _ _ ⟨(blk_cell BK651.out 0).trans rfl, (blk_cell BK651.out 1).trans rfl, (blk_cell BK651.out 2).trans rfl⟩ (fun hHeld => ?_)
  clear hK K
  refine norm_ (a' := ?_) ?_ ?_
  rotate_left
  ·show Act.put _ (some 47) _ = _
   simp only [Act.put, List.setIfInBounds_toArray, List.set_cons_zero, List.set_cons_succ, i64_w, i32_w]
   rfl
  refine pure_ (i := 6) (N := some 48) (v := ?_) (a' := ?_) #[true, true, true, true, true, true, true, false, false, false] rfl rfl (any_of HT_.out (by kernel_rfl)) (fun _ _ _ h => h) (Or.inl ⟨by rfl, ?_⟩) ?_ ?_
  rotate_left
  ·intro w'
   go_simp
   with_reducible rfl
  rotate_left
  ·simp only [Act.put, List.setIfInBounds_toArray, List.set_cons_zero, List.set_cons_succ, i64_w, i32_w]
   rfl
  refine pure_ (i := 7) (N := some 49) (v := ?_) (a' := ?_) #[true, true, true, true, true, true, true, true, false, false] rfl rfl (any_of HT_.out (by kernel_rfl)) (fun _ _ _ h => h) (Or.inl ⟨by rfl, ?_⟩) ?_ ?_
  rotate_left
  ·intro w'
   go_simp
   with_reducible rfl
  rotate_left
  ·simp only [Act.put, List.setIfInBounds_toArray, List.set_cons_zero, List.set_cons_succ, i64_w, i32_w]
   rfl
  refine one_ (i := 8) (N := some 50) #[true, true, true, true, true, true, true, true, true, false] rfl rfl (one_of HT_.out (by kernel_rfl)) (by decide) (fun K hK => ?_)
  refine goes_ Tryd.func25 (by kernel_rfl) rfl #[.int .i64 (Go.bits .or .i64 t660 (ji10))] (by rfl) rfl rfl (by (try simp only [List.map_toArray, List.map_cons, List.map_nil]); first | done | (simp only [hji10]; rfl) | rfl | (simp only [List.length_drop, List.length_take]; rfl)) ?_
  with_reducible refine (numnahref06_List.calls k (Go.bits .or .i64 t660 (ji10)) t662 _ A11.out).mono ?_
  rintro e w23 ⟨v663, rfl, ho0, hb⟩
  refine ⟨_, rfl, ?_⟩
  have n0_ := Aside0.mk (Kd.R_below (by (with_reducible repeat (first | apply Kd.R_alloc | apply Kd.R_drewN | apply Kd.R_drew)); exact HO655.out) hb)
  have n1_ := Aside0.mk (Kd.R_elder' (by (with_reducible repeat (first | apply Kd.R_alloc | apply Kd.R_drewN | apply Kd.R_drew)); exact HO659.out) (Kd.R_base ho0) hb)
  have n2_ := Aside0.mk (Kd.R_lower (Kd.R_new' ho0 (Kd.R_lt (by (with_reducible repeat (first | apply Kd.R_alloc | apply Kd.R_drewN | apply Kd.R_drew)); exact HO659.out))) (below_size (by repeat (first | (with_reducible first | exact HB.out | apply below_alloc | apply pw_below_drewN | apply below_drew1 | refine below_set ?_ GE651.out) | exact HB.out))))
  have n3_ := Aside0.mk (blk_below (g := gb651) (o := .cells #[.int .i64 a2_0, .int .i64 a2_1, .int .i64 a2_2] 64 (0, 0)) (by (with_reducible repeat (first | refine blk_drewN ?_ _ | refine blk_drew ?_ | refine blk_alloc ?_ _)); exact BK651.out) hb)
  have n4_ := Aside0.mk (below_step (by repeat (first | (with_reducible first | exact HB.out | apply below_alloc | apply pw_below_drewN | apply below_drew1 | refine below_set ?_ GE651.out) | exact HB.out)) hb)
  clear HO655
  clear HO659
  clear BK651
  clear HB
  have HO655 := n0_
  have HO659 := n1_
  have HO664 := n2_
  have BK651 := n3_
  have HB := n4_
  clear n0_ n1_ n2_ n3_ n4_
  (try clear hb)
  (try clear hb2)
  (try clear hk)
  (try clear hi)
  (try clear ho0)
  refine hK.out _ _ ⟨(blk_cell BK651.out 0).trans rfl, (blk_cell BK651.out 1).trans rfl, (blk_cell BK651.out 2).trans rfl⟩ (fun hHeld => ?_)
  clear hK K
  refine norm_ (a' := ?_) ?_ ?_
  rotate_left
  ·show Act.put _ (some 50) _ = _
   simp only [Act.put, List.setIfInBounds_toArray, List.set_cons_zero, List.set_cons_succ, i64_w, i32_w]
   rfl
  refine pure_ (i := 9) (N := some 10) (v := ?_) (a' := ?_) #[true, true, true, true, true, true, true, true, true, true] rfl rfl (any_of HT_.out (by kernel_rfl)) (fun _ _ _ h => h) (Or.inl ⟨by rfl, ?_⟩) ?_ ?_
  rotate_left
  ·intro w'
   go_simp
   with_reducible rfl
  rotate_left
  ·simp only [Act.put, List.setIfInBounds_toArray, List.set_cons_zero, List.set_cons_succ, i64_w, i32_w]
   rfl
  refine done_ (done_of HT_.out (by kernel_rfl)) ?_
  obtain ⟨Ao24, co24, eo24⟩ := Kd.R_slice HO655.out
  subst eo24
  go_upto_region 9 with (first | ((with_reducible refine gate_callee (f := 29) rfl ?_); refine goesL_ (some 55) rfl rfl Tryd.func29 (by kernel_rfl) rfl #[.int .i64 t652, .slice Ao24 t653.length co24, .slice Ao22 t657.length co22] rfl (by (try simp only [List.map_toArray, List.map_cons, List.map_nil]); first | done | rfl | (simp only [List.length_drop, List.length_take]; rfl)) ?_; (with_reducible refine (wetting_Close.calls t652 _ _ t653 _ _ t657 t665 t666 t667 _ ?side1 ?side2 ?side3 ?side4 A12.out ?sideT).mono ?_); (case sideT => exact tab_of (by repeat (first | (with_reducible first | exact HB.out | apply below_alloc | apply pw_below_drewN | apply below_drew1) | exact HB.out)) HT.out); (case side1 => repeat (first | exact (Kd.R_reads' HO655.out).2.2 | (with_reducible refine Kd.C_alloc ?_ _) | (with_reducible refine Kd.C_drewN ?_ _) | (with_reducible refine Kd.C_drew ?_))); (case side2 => exact (Kd.R_reads' HO655.out).2.1); (case side3 => repeat (first | exact (Kd.R_reads' HO659.out).2.2 | (with_reducible refine Kd.C_alloc ?_ _) | (with_reducible refine Kd.C_drewN ?_ _) | (with_reducible refine Kd.C_drew ?_))); (case side4 => exact (Kd.R_reads' HO659.out).2.1); rintro e w25 ⟨v668, rfl, ho0, hb⟩; refine ⟨_, rfl, ?_⟩; have n0_ := Aside0.mk (Kd.R_below (by (with_reducible repeat (first | apply Kd.R_alloc | apply Kd.R_drewN | apply Kd.R_drew)); exact HO655.out) hb); have n1_ := Aside0.mk (Kd.R_elder' (by (with_reducible repeat (first | apply Kd.R_alloc | apply Kd.R_drewN | apply Kd.R_drew)); exact HO659.out) (Kd.R_base ho0) hb); have n2_ := Aside0.mk (Kd.R_elder' (by (with_reducible repeat (first | apply Kd.R_alloc | apply Kd.R_drewN | apply Kd.R_drew)); exact HO664.out) (Kd.R_base ho0) hb); have n3_ := Aside0.mk (Kd.R_lower (Kd.R_new' (Kd.R_new' ho0 (Kd.R_lt (by (with_reducible repeat (first | apply Kd.R_alloc | apply Kd.R_drewN | apply Kd.R_drew)); exact HO659.out))) (Kd.R_lt (by (with_reducible repeat (first | apply Kd.R_alloc | apply Kd.R_drewN | apply Kd.R_drew)); exact HO664.out))) (below_size (by repeat (first | (with_reducible first | exact HB.out | apply below_alloc | apply pw_below_drewN | apply below_drew1 | refine below_set ?_ GE651.out) | exact HB.out)))); have n4_ := Aside0.mk (blk_below (g := gb651) (o := .cells #[.int .i64 a2_0, .int .i64 a2_1, .int .i64 a2_2] 64 (0, 0)) (by (with_reducible repeat (first | refine blk_drewN ?_ _ | refine blk_drew ?_ | refine blk_alloc ?_ _)); exact BK651.out) hb); have n5_ := Aside0.mk (below_step (by repeat (first | (with_reducible first | exact HB.out | apply below_alloc | apply pw_below_drewN | apply below_drew1 | refine below_set ?_ GE651.out) | exact HB.out)) hb); clear HO655; clear HO659; clear HO664; clear BK651; clear HB; have HO655 := n0_; have HO659 := n1_; have HO664 := n2_; have HO669 := n3_; have BK651 := n4_; have HB := n5_; clear n0_ n1_ n2_ n3_ n4_ n5_; (try clear hb); (try clear hb2); (try clear hk); (try clear hi); (try clear ho0); obtain ⟨Ao26, co26, eo26⟩ := Kd.R_slice HO664.out; subst eo26) | ((with_reducible refine gate_callee (f := 29) rfl ?_); refine goesL_ (some 63) rfl rfl Tryd.func29 (by kernel_rfl) rfl #[.int .i64 t652, .slice Ao24 t653.length co24, .slice Ao26 t662.length co26] rfl (by (try simp only [List.map_toArray, List.map_cons, List.map_nil]); first | done | rfl | (simp only [List.length_drop, List.length_take]; rfl)) ?_; (with_reducible refine (wetting_Close.calls t652 _ _ t653 _ _ t662 t670 t671 t672 _ ?side1 ?side2 ?side3 ?side4 A13.out ?sideT).mono ?_); (case sideT => exact tab_of (by repeat (first | (with_reducible first | exact HB.out | apply below_alloc | apply pw_below_drewN | apply below_drew1) | exact HB.out)) HT.out); (case side1 => repeat (first | exact (Kd.R_reads' HO655.out).2.2 | (with_reducible refine Kd.C_alloc ?_ _) | (with_reducible refine Kd.C_drewN ?_ _) | (with_reducible refine Kd.C_drew ?_))); (case side2 => exact (Kd.R_reads' HO655.out).2.1); (case side3 => repeat (first | exact (Kd.R_reads' HO664.out).2.2 | (with_reducible refine Kd.C_alloc ?_ _) | (with_reducible refine Kd.C_drewN ?_ _) | (with_reducible refine Kd.C_drew ?_))); (case side4 => exact (Kd.R_reads' HO664.out).2.1); rintro e w27 ⟨v673, rfl, ho0, hb⟩; refine ⟨_, rfl, ?_⟩; have n0_ := Aside0.mk (Kd.R_below (by (with_reducible repeat (first | apply Kd.R_alloc | apply Kd.R_drewN | apply Kd.R_drew)); exact HO655.out) hb); have n1_ := Aside0.mk (Kd.R_elder' (by (with_reducible repeat (first | apply Kd.R_alloc | apply Kd.R_drewN | apply Kd.R_drew)); exact HO659.out) (Kd.R_base ho0) hb); have n2_ := Aside0.mk (Kd.R_elder' (by (with_reducible repeat (first | apply Kd.R_alloc | apply Kd.R_drewN | apply Kd.R_drew)); exact HO664.out) (Kd.R_base ho0) hb); have n3_ := Aside0.mk (Kd.R_elder' (by (with_reducible repeat (first | apply Kd.R_alloc | apply Kd.R_drewN | apply Kd.R_drew)); exact HO669.out) (Kd.R_base ho0) hb); have n4_ := Aside0.mk (Kd.R_lower (Kd.R_new' (Kd.R_new' (Kd.R_new' ho0 (Kd.R_lt (by (with_reducible repeat (first | apply Kd.R_alloc | apply Kd.R_drewN | apply Kd.R_drew)); exact HO659.out))) (Kd.R_lt (by (with_reducible repeat (first | apply Kd.R_alloc | apply Kd.R_drewN | apply Kd.R_drew)); exact HO664.out))) (Kd.R_lt (by (with_reducible repeat (first | apply Kd.R_alloc | apply Kd.R_drewN | apply Kd.R_drew)); exact HO669.out))) (below_size (by repeat (first | (with_reducible first | exact HB.out | apply below_alloc | apply pw_below_drewN | apply below_drew1 | refine below_set ?_ GE651.out) | exact HB.out)))); have n5_ := Aside0.mk (blk_below (g := gb651) (o := .cells #[.int .i64 a2_0, .int .i64 a2_1, .int .i64 a2_2] 64 (0, 0)) (by (with_reducible repeat (first | refine blk_drewN ?_ _ | refine blk_drew ?_ | refine blk_alloc ?_ _)); exact BK651.out) hb); have n6_ := Aside0.mk (below_step (by repeat (first | (with_reducible first | exact HB.out | apply below_alloc | apply pw_below_drewN | apply below_drew1 | refine below_set ?_ GE651.out) | exact HB.out)) hb); clear HO655; clear HO659; clear HO664; clear HO669; clear BK651; clear HB; have HO655 := n0_; have HO659 := n1_; have HO664 := n2_; have HO669 := n3_; have HO674 := n4_; have BK651 := n5_; have HB := n6_; clear n0_ n1_ n2_ n3_ n4_ n5_ n6_; (try clear hb); (try clear hb2); (try clear hk); (try clear hi); (try clear ho0)) | ((with_reducible refine gate_callee (f := 48) rfl ?_); refine goesL_ (some 72) rfl rfl Tryd.func48 (by kernel_rfl) rfl #[.int .i64 t652, .slice Ao24 t653.length co24, .slice Ao22 t657.length co22, .int .i64 (wrap64 (1 + t656))] rfl (by (try simp only [List.map_toArray, List.map_cons, List.map_nil]); first | done | rfl | (simp only [List.length_drop, List.length_take]; rfl)) ?_; (with_reducible refine (wetting_Soak.calls t652 _ _ t653 _ _ t657 (wrap64 (1 + t656)) t675 t676 t677 _ ?side1 ?side2 ?side3 ?side4 A14.out ?sideT).mono ?_); (case sideT => exact tab_of (by repeat (first | (with_reducible first | exact HB.out | apply below_alloc | apply pw_below_drewN | apply below_drew1) | exact HB.out)) HT.out); (case side1 => repeat (first | exact (Kd.R_reads' HO655.out).2.2 | (with_reducible refine Kd.C_alloc ?_ _) | (with_reducible refine Kd.C_drewN ?_ _) | (with_reducible refine Kd.C_drew ?_))); (case side2 => exact (Kd.R_reads' HO655.out).2.1); (case side3 => repeat (first | exact (Kd.R_reads' HO659.out).2.2 | (with_reducible refine Kd.C_alloc ?_ _) | (with_reducible refine Kd.C_drewN ?_ _) | (with_reducible refine Kd.C_drew ?_))); (case side4 => exact (Kd.R_reads' HO659.out).2.1); rintro e w28 ⟨v678, rfl, ho0, hb⟩; refine ⟨_, rfl, ?_⟩; have n0_ := Aside0.mk (Kd.R_below (by (with_reducible repeat (first | apply Kd.R_alloc | apply Kd.R_drewN | apply Kd.R_drew)); exact HO655.out) hb); have n1_ := Aside0.mk (Kd.R_elder' (by (with_reducible repeat (first | apply Kd.R_alloc | apply Kd.R_drewN | apply Kd.R_drew)); exact HO659.out) (Kd.R_base ho0) hb); have n2_ := Aside0.mk (Kd.R_elder' (by (with_reducible repeat (first | apply Kd.R_alloc | apply Kd.R_drewN | apply Kd.R_drew)); exact HO664.out) (Kd.R_base ho0) hb); have n3_ := Aside0.mk (Kd.R_elder' (by (with_reducible repeat (first | apply Kd.R_alloc | apply Kd.R_drewN | apply Kd.R_drew)); exact HO669.out) (Kd.R_base ho0) hb); have n4_ := Aside0.mk (Kd.R_elder' (by (with_reducible repeat (first | apply Kd.R_alloc | apply Kd.R_drewN | apply Kd.R_drew)); exact HO674.out) (Kd.R_base ho0) hb); have n5_ := Aside0.mk (Kd.R_lower (Kd.R_new' (Kd.R_new' (Kd.R_new' (Kd.R_new' ho0 (Kd.R_lt (by (with_reducible repeat (first | apply Kd.R_alloc | apply Kd.R_drewN | apply Kd.R_drew)); exact HO659.out))) (Kd.R_lt (by (with_reducible repeat (first | apply Kd.R_alloc | apply Kd.R_drewN | apply Kd.R_drew)); exact HO664.out))) (Kd.R_lt (by (with_reducible repeat (first | apply Kd.R_alloc | apply Kd.R_drewN | apply Kd.R_drew)); exact HO669.out))) (Kd.R_lt (by (with_reducible repeat (first | apply Kd.R_alloc | apply Kd.R_drewN | apply Kd.R_drew)); exact HO674.out))) (below_size (by repeat (first | (with_reducible first | exact HB.out | apply below_alloc | apply pw_below_drewN | apply below_drew1 | refine below_set ?_ GE651.out) | exact HB.out)))); have n6_ := Aside0.mk (blk_below (g := gb651) (o := .cells #[.int .i64 a2_0, .int .i64 a2_1, .int .i64 a2_2] 64 (0, 0)) (by (with_reducible repeat (first | refine blk_drewN ?_ _ | refine blk_drew ?_ | refine blk_alloc ?_ _)); exact BK651.out) hb); have n7_ := Aside0.mk (below_step (by repeat (first | (with_reducible first | exact HB.out | apply below_alloc | apply pw_below_drewN | apply below_drew1 | refine below_set ?_ GE651.out) | exact HB.out)) hb); clear HO655; clear HO659; clear HO664; clear HO669; clear HO674; clear BK651; clear HB; have HO655 := n0_; have HO659 := n1_; have HO664 := n2_; have HO669 := n3_; have HO674 := n4_; have HO679 := n5_; have BK651 := n6_; have HB := n7_; clear n0_ n1_ n2_ n3_ n4_ n5_ n6_ n7_; (try clear hb); (try clear hb2); (try clear hk); (try clear hi); (try clear ho0)) | ((with_reducible refine gate_callee (f := 48) rfl ?_); refine goesL_ (some 81) rfl rfl Tryd.func48 (by kernel_rfl) rfl #[.int .i64 t652, .slice Ao24 t653.length co24, .slice Ao26 t662.length co26, .int .i64 (wrap64 (1 + t656))] rfl (by (try simp only [List.map_toArray, List.map_cons, List.map_nil]); first | done | rfl | (simp only [List.length_drop, List.length_take]; rfl)) ?_; (with_reducible refine (wetting_Soak.calls t652 _ _ t653 _ _ t662 (wrap64 (1 + t656)) t680 t681 t682 _ ?side1 ?side2 ?side3 ?side4 A15.out ?sideT).mono ?_); (case sideT => exact tab_of (by repeat (first | (with_reducible first | exact HB.out | apply below_alloc | apply pw_below_drewN | apply below_drew1) | exact HB.out)) HT.out); (case side1 => repeat (first | exact (Kd.R_reads' HO655.out).2.2 | (with_reducible refine Kd.C_alloc ?_ _) | (with_reducible refine Kd.C_drewN ?_ _) | (with_reducible refine Kd.C_drew ?_))); (case side2 => exact (Kd.R_reads' HO655.out).2.1); (case side3 => repeat (first | exact (Kd.R_reads' HO664.out).2.2 | (with_reducible refine Kd.C_alloc ?_ _) | (with_reducible refine Kd.C_drewN ?_ _) | (with_reducible refine Kd.C_drew ?_))); (case side4 => exact (Kd.R_reads' HO664.out).2.1); rintro e w29 ⟨v683, rfl, ho0, hb⟩; refine ⟨_, rfl, ?_⟩; have n0_ := Aside0.mk (Kd.R_below (by (with_reducible repeat (first | apply Kd.R_alloc | apply Kd.R_drewN | apply Kd.R_drew)); exact HO655.out) hb); have n1_ := Aside0.mk (Kd.R_elder' (by (with_reducible repeat (first | apply Kd.R_alloc | apply Kd.R_drewN | apply Kd.R_drew)); exact HO659.out) (Kd.R_base ho0) hb); have n2_ := Aside0.mk (Kd.R_elder' (by (with_reducible repeat (first | apply Kd.R_alloc | apply Kd.R_drewN | apply Kd.R_drew)); exact HO664.out) (Kd.R_base ho0) hb); have n3_ := Aside0.mk (Kd.R_elder' (by (with_reducible repeat (first | apply Kd.R_alloc | apply Kd.R_drewN | apply Kd.R_drew)); exact HO669.out) (Kd.R_base ho0) hb); have n4_ := Aside0.mk (Kd.R_elder' (by (with_reducible repeat (first | apply Kd.R_alloc | apply Kd.R_drewN | apply Kd.R_drew)); exact HO674.out) (Kd.R_base ho0) hb); have n5_ := Aside0.mk (Kd.R_elder' (by (with_reducible repeat (first | apply Kd.R_alloc | apply Kd.R_drewN | apply Kd.R_drew)); exact HO679.out) (Kd.R_base ho0) hb); have n6_ := Aside0.mk (Kd.R_lower (Kd.R_new' (Kd.R_new' (Kd.R_new' (Kd.R_new' (Kd.R_new' ho0 (Kd.R_lt (by (with_reducible repeat (first | apply Kd.R_alloc | apply Kd.R_drewN | apply Kd.R_drew)); exact HO659.out))) (Kd.R_lt (by (with_reducible repeat (first | apply Kd.R_alloc | apply Kd.R_drewN | apply Kd.R_drew)); exact HO664.out))) (Kd.R_lt (by (with_reducible repeat (first | apply Kd.R_alloc | apply Kd.R_drewN | apply Kd.R_drew)); exact HO669.out))) (Kd.R_lt (by (with_reducible repeat (first | apply Kd.R_alloc | apply Kd.R_drewN | apply Kd.R_drew)); exact HO674.out))) (Kd.R_lt (by (with_reducible repeat (first | apply Kd.R_alloc | apply Kd.R_drewN | apply Kd.R_drew)); exact HO679.out))) (below_size (by repeat (first | (with_reducible first | exact HB.out | apply below_alloc | apply pw_below_drewN | apply below_drew1 | refine below_set ?_ GE651.out) | exact HB.out)))); have n7_ := Aside0.mk (blk_below (g := gb651) (o := .cells #[.int .i64 a2_0, .int .i64 a2_1, .int .i64 a2_2] 64 (0, 0)) (by (with_reducible repeat (first | refine blk_drewN ?_ _ | refine blk_drew ?_ | refine blk_alloc ?_ _)); exact BK651.out) hb); have n8_ := Aside0.mk (below_step (by repeat (first | (with_reducible first | exact HB.out | apply below_alloc | apply pw_below_drewN | apply below_drew1 | refine below_set ?_ GE651.out) | exact HB.out)) hb); clear HO655; clear HO659; clear HO664; clear HO669; clear HO674; clear HO679; clear BK651; clear HB; have HO655 := n0_; have HO659 := n1_; have HO664 := n2_; have HO669 := n3_; have HO674 := n4_; have HO679 := n5_; have HO684 := n6_; have BK651 := n7_; have HB := n8_; clear n0_ n1_ n2_ n3_ n4_ n5_ n6_ n7_ n8_; (try clear hb); (try clear hb2); (try clear hk); (try clear hi); (try clear ho0)))
  (try simp only [Act.put, List.setIfInBounds_toArray, List.set_cons_zero, List.set_cons_succ])
  go_cut [122] (fun v122 wc => ∃ (kq : Nat) (x122_15 : Bool), v122 = .bool x122_15 ∧ Aside0 (numnahlaw06_WettingGrows.j0 kq t652 t653 t657 t665 t670 t675 t680 x122_15 = some r) ∧ Aside0 (kq ≤ k) ∧ Aside0 (Kd.R k48 48 wc w.heap.size (fun _ => True) (.slice Ao24 t653.length co24) t653) ∧ Aside0 (Kd.R (Kd.int .i64) 3 wc w.heap.size (fun k_ => some k_ ≠ (v668 : Value).ownBlock ∧ some k_ ≠ (v673 : Value).ownBlock ∧ some k_ ≠ (v678 : Value).ownBlock ∧ some k_ ≠ (v683 : Value).ownBlock) (.slice Ao22 t657.length co22) t657) ∧ Aside0 (Kd.R (Kd.int .i64) 3 wc w.heap.size (fun k_ => some k_ ≠ ((.slice Ao22 t657.length co22) : Value).ownBlock ∧ some k_ ≠ (v673 : Value).ownBlock ∧ some k_ ≠ (v678 : Value).ownBlock ∧ some k_ ≠ (v683 : Value).ownBlock) v668 t665) ∧ Aside0 (Kd.R (Kd.int .i64) 3 wc w.heap.size (fun k_ => some k_ ≠ ((.slice Ao22 t657.length co22) : Value).ownBlock ∧ some k_ ≠ (v668 : Value).ownBlock ∧ some k_ ≠ (v678 : Value).ownBlock ∧ some k_ ≠ (v683 : Value).ownBlock) v673 t670) ∧ Aside0 (Kd.R (Kd.int .i64) 3 wc w.heap.size (fun k_ => some k_ ≠ ((.slice Ao22 t657.length co22) : Value).ownBlock ∧ some k_ ≠ (v668 : Value).ownBlock ∧ some k_ ≠ (v673 : Value).ownBlock ∧ some k_ ≠ (v683 : Value).ownBlock) v678 t675) ∧ Aside0 (Kd.R (Kd.int .i64) 3 wc w.heap.size (fun k_ => some k_ ≠ ((.slice Ao22 t657.length co22) : Value).ownBlock ∧ some k_ ≠ (v668 : Value).ownBlock ∧ some k_ ≠ (v673 : Value).ownBlock ∧ some k_ ≠ (v678 : Value).ownBlock) v683 t680) ∧ Aside0 (wc.heap[gb651]? = some (.cells #[.int .i64 a2_0, .int .i64 a2_1, .int .i64 a2_2] 64 (0, 0))) ∧ Aside0 (Below w.heap.size w wc))
  case first =>
   have H := HC16.out
   clear HC16
   by_cases c30 : t667 = 0
   ·rw [if_pos c30] at H
    have c30b0 : (t667 == 0) = true := beq_iff_eq.mpr c30
    have c30b1 : (t667 != 0) = false := bne_eq_false_iff_eq.mpr c30
    clear c30
    (first | rw [c30b0] | (simp only [i64_w, i32_w]; rw [c30b0]) | skip)
    by_cases c31 : t672 = 0
    ·rw [if_pos c31] at H
     have c31b0 : (t672 == 0) = true := beq_iff_eq.mpr c31
     have c31b1 : (t672 != 0) = false := bne_eq_false_iff_eq.mpr c31
     clear c31
     by_cases c32 : t677 = 0
     ·rw [if_pos c32] at H
      have c32b0 : (t677 == 0) = true := beq_iff_eq.mpr c32
      have c32b1 : (t677 != 0) = false := bne_eq_false_iff_eq.mpr c32
      clear c32
      by_cases c33 : t682 = 0
      ·rw [if_pos c33] at H
       have c33b0 : (t682 == 0) = true := beq_iff_eq.mpr c33
       have c33b1 : (t682 != 0) = false := bne_eq_false_iff_eq.mpr c33
       clear c33
       replace H := Option.bind_eq_some_iff.mp H
       obtain ⟨t685, A340, H⟩ := H
       replace H : (if t685 = true then ((numnahlaw06_within.f k t652 t670).bind fun t686 => (if t686 = true then ((numnahlaw06_within.f k t652 t675).bind fun t687 => (if t687 = true then ((numnahlaw06_within.f k t652 t680).bind fun t688 => (numnahlaw06_WettingGrows.j0 k t652 t653 t657 t665 t670 t675 t680 (!t688))) else (numnahlaw06_WettingGrows.j0 k t652 t653 t657 t665 t670 t675 t680 true))) else (numnahlaw06_WettingGrows.j0 k t652 t653 t657 t665 t670 t675 t680 true))) else (numnahlaw06_WettingGrows.j0 k t652 t653 t657 t665 t670 t675 t680 true)) = some r := H
       have A34 := Aside0.mk A340
       clear A340
       by_cases c35 : t685 = true
       ·subst c35
        have H1 : ((numnahlaw06_within.f k t652 t670).bind fun t686 => (if t686 = true then ((numnahlaw06_within.f k t652 t675).bind fun t687 => (if t687 = true then ((numnahlaw06_within.f k t652 t680).bind fun t688 => (numnahlaw06_WettingGrows.j0 k t652 t653 t657 t665 t670 t675 t680 (!t688))) else (numnahlaw06_WettingGrows.j0 k t652 t653 t657 t665 t670 t675 t680 true))) else (numnahlaw06_WettingGrows.j0 k t652 t653 t657 t665 t670 t675 t680 true))) = some r := by rw [if_pos rfl] at H; exact H
        clear H
        have H := H1
        clear H1
        replace H := Option.bind_eq_some_iff.mp H
        obtain ⟨t686, A360, H⟩ := H
        replace H : (if t686 = true then ((numnahlaw06_within.f k t652 t675).bind fun t687 => (if t687 = true then ((numnahlaw06_within.f k t652 t680).bind fun t688 => (numnahlaw06_WettingGrows.j0 k t652 t653 t657 t665 t670 t675 t680 (!t688))) else (numnahlaw06_WettingGrows.j0 k t652 t653 t657 t665 t670 t675 t680 true))) else (numnahlaw06_WettingGrows.j0 k t652 t653 t657 t665 t670 t675 t680 true)) = some r := H
        have A36 := Aside0.mk A360
        clear A360
        by_cases c37 : t686 = true
        ·subst c37
         have H1 : ((numnahlaw06_within.f k t652 t675).bind fun t687 => (if t687 = true then ((numnahlaw06_within.f k t652 t680).bind fun t688 => (numnahlaw06_WettingGrows.j0 k t652 t653 t657 t665 t670 t675 t680 (!t688))) else (numnahlaw06_WettingGrows.j0 k t652 t653 t657 t665 t670 t675 t680 true))) = some r := by rw [if_pos rfl] at H; exact H
         clear H
         have H := H1
         clear H1
         replace H := Option.bind_eq_some_iff.mp H
         obtain ⟨t687, A380, H⟩ := H
         replace H : (if t687 = true then ((numnahlaw06_within.f k t652 t680).bind fun t688 => (numnahlaw06_WettingGrows.j0 k t652 t653 t657 t665 t670 t675 t680 (!t688))) else (numnahlaw06_WettingGrows.j0 k t652 t653 t657 t665 t670 t675 t680 true)) = some r := H
         have A38 := Aside0.mk A380
         clear A380
         by_cases c39 : t687 = true
         ·subst c39
          have H1 : ((numnahlaw06_within.f k t652 t680).bind fun t688 => (numnahlaw06_WettingGrows.j0 k t652 t653 t657 t665 t670 t675 t680 (!t688))) = some r := by rw [if_pos rfl] at H; exact H
          clear H
          have H := H1
          clear H1
          replace H := Option.bind_eq_some_iff.mp H
          obtain ⟨t688, A400, H⟩ := H
          replace H : (numnahlaw06_WettingGrows.j0 k t652 t653 t657 t665 t670 t675 t680 (!t688)) = some r := H
          have A40 := Aside0.mk A400
          clear A400
          have H' := Aside0.mk H
          clear H
          obtain ⟨Ao41, co41, eo41⟩ := Kd.R_slice HO669.out
          subst eo41
          go_wp2_with (first | (go_at_call 30; (with_reducible refine (numnahlaw06_within.calls k t652 _ _ t665 true _ ?side1 ?side2 A34.out).mono ?_); (case side1 => repeat (first | exact (Kd.R_reads' HO669.out).2.2 | (with_reducible refine Kd.C_alloc ?_ _) | (with_reducible refine Kd.C_drewN ?_ _) | (with_reducible refine Kd.C_drew ?_))); (case side2 => exact (Kd.R_reads' HO669.out).2.1); rintro e w' ⟨rfl, ⟨nd, rfl⟩⟩; obtain ⟨Ao42, co42, eo42⟩ := Kd.R_slice HO674.out; subst eo42) | (go_at_call 30; (with_reducible refine (numnahlaw06_within.calls k t652 _ _ t670 true _ ?side1 ?side2 A36.out).mono ?_); (case side1 => repeat (first | exact (Kd.R_reads' HO674.out).2.2 | (with_reducible refine Kd.C_alloc ?_ _) | (with_reducible refine Kd.C_drewN ?_ _) | (with_reducible refine Kd.C_drew ?_))); (case side2 => exact (Kd.R_reads' HO674.out).2.1); rintro e w' ⟨rfl, ⟨nd, rfl⟩⟩; obtain ⟨Ao43, co43, eo43⟩ := Kd.R_slice HO679.out; subst eo43) | (go_at_call 30; (with_reducible refine (numnahlaw06_within.calls k t652 _ _ t675 true _ ?side1 ?side2 A38.out).mono ?_); (case side1 => repeat (first | exact (Kd.R_reads' HO679.out).2.2 | (with_reducible refine Kd.C_alloc ?_ _) | (with_reducible refine Kd.C_drewN ?_ _) | (with_reducible refine Kd.C_drew ?_))); (case side2 => exact (Kd.R_reads' HO679.out).2.1); rintro e w' ⟨rfl, ⟨nd, rfl⟩⟩; obtain ⟨Ao44, co44, eo44⟩ := Kd.R_slice HO684.out; subst eo44) | (go_at_call 30; (with_reducible refine (numnahlaw06_within.calls k t652 _ _ t680 t688 _ ?side1 ?side2 A40.out).mono ?_); (case side1 => repeat (first | exact (Kd.R_reads' HO684.out).2.2 | (with_reducible refine Kd.C_alloc ?_ _) | (with_reducible refine Kd.C_drewN ?_ _) | (with_reducible refine Kd.C_drew ?_))); (case side2 => exact (Kd.R_reads' HO684.out).2.1); rintro e w' ⟨rfl, ⟨nd, rfl⟩⟩))
          go_meet
          case rel => exact ⟨_, (!t688), (by first | rfl | (simp; done) | (simp [*]; done)), H', ⟨by first | omega | exact Nat.le_refl _⟩, ⟨by (with_reducible repeat (first | apply Kd.R_alloc | apply Kd.R_drewN | apply Kd.R_drew)); exact HO655.out⟩, ⟨by (with_reducible repeat (first | apply Kd.R_alloc | apply Kd.R_drewN | apply Kd.R_drew)); exact Kd.R_mono HO659.out (fun _ hk => ⟨hk.1.1.1.2, ⟨hk.1.1.2, ⟨hk.1.2, hk.2⟩⟩⟩)⟩, ⟨by (with_reducible repeat (first | apply Kd.R_alloc | apply Kd.R_drewN | apply Kd.R_drew)); exact Kd.R_mono HO669.out (fun _ hk => ⟨hk.1.1.1.1.2, ⟨hk.1.1.2, ⟨hk.1.2, hk.2⟩⟩⟩)⟩, ⟨by (with_reducible repeat (first | apply Kd.R_alloc | apply Kd.R_drewN | apply Kd.R_drew)); exact Kd.R_mono HO674.out (fun _ hk => ⟨hk.1.1.1.1.2, ⟨hk.1.1.2, ⟨hk.1.2, hk.2⟩⟩⟩)⟩, ⟨by (with_reducible repeat (first | apply Kd.R_alloc | apply Kd.R_drewN | apply Kd.R_drew)); exact Kd.R_mono HO679.out (fun _ hk => ⟨hk.1.1.1.1.2, ⟨hk.1.1.2, ⟨hk.1.2, hk.2⟩⟩⟩)⟩, ⟨by (with_reducible repeat (first | apply Kd.R_alloc | apply Kd.R_drewN | apply Kd.R_drew)); exact Kd.R_mono HO684.out (fun _ hk => ⟨hk.1.1.1.1.2, ⟨hk.1.1.2, ⟨hk.1.2, hk.2⟩⟩⟩)⟩, ⟨by (with_reducible repeat (first | refine blk_drewN ?_ _ | refine blk_drew ?_ | refine blk_alloc ?_ _)); exact BK651.out⟩, ⟨by repeat (first | (with_reducible first | exact HB.out | apply below_alloc | apply pw_below_drewN | apply below_drew1 | refine below_set ?_ GE651.out) | exact HB.out)⟩⟩
         ·replace c39 := Bool.eq_false_iff.mpr c39
          subst c39
          have H1 : (numnahlaw06_WettingGrows.j0 k t652 t653 t657 t665 t670 t675 t680 true) = some r := by rw [if_neg (show ¬ (false = true) by decide)] at H; exact H
          clear H
          have H := H1
          clear H1
          have H' := Aside0.mk H
          clear H
          obtain ⟨Ao45, co45, eo45⟩ := Kd.R_slice HO669.out
          subst eo45
          go_wp2_with (first | (go_at_call 30; (with_reducible refine (numnahlaw06_within.calls k t652 _ _ t665 true _ ?side1 ?side2 A34.out).mono ?_); (case side1 => repeat (first | exact (Kd.R_reads' HO669.out).2.2 | (with_reducible refine Kd.C_alloc ?_ _) | (with_reducible refine Kd.C_drewN ?_ _) | (with_reducible refine Kd.C_drew ?_))); (case side2 => exact (Kd.R_reads' HO669.out).2.1); rintro e w' ⟨rfl, ⟨nd, rfl⟩⟩; obtain ⟨Ao46, co46, eo46⟩ := Kd.R_slice HO674.out; subst eo46) | (go_at_call 30; (with_reducible refine (numnahlaw06_within.calls k t652 _ _ t670 true _ ?side1 ?side2 A36.out).mono ?_); (case side1 => repeat (first | exact (Kd.R_reads' HO674.out).2.2 | (with_reducible refine Kd.C_alloc ?_ _) | (with_reducible refine Kd.C_drewN ?_ _) | (with_reducible refine Kd.C_drew ?_))); (case side2 => exact (Kd.R_reads' HO674.out).2.1); rintro e w' ⟨rfl, ⟨nd, rfl⟩⟩; obtain ⟨Ao47, co47, eo47⟩ := Kd.R_slice HO679.out; subst eo47) | (go_at_call 30; (with_reducible refine (numnahlaw06_within.calls k t652 _ _ t675 false _ ?side1 ?side2 A38.out).mono ?_); (case side1 => repeat (first | exact (Kd.R_reads' HO679.out).2.2 | (with_reducible refine Kd.C_alloc ?_ _) | (with_reducible refine Kd.C_drewN ?_ _) | (with_reducible refine Kd.C_drew ?_))); (case side2 => exact (Kd.R_reads' HO679.out).2.1); rintro e w' ⟨rfl, ⟨nd, rfl⟩⟩))
          go_meet
          case rel => exact ⟨_, (true), (by first | rfl | (simp; done) | (simp [*]; done)), H', ⟨by first | omega | exact Nat.le_refl _⟩, ⟨by (with_reducible repeat (first | apply Kd.R_alloc | apply Kd.R_drewN | apply Kd.R_drew)); exact HO655.out⟩, ⟨by (with_reducible repeat (first | apply Kd.R_alloc | apply Kd.R_drewN | apply Kd.R_drew)); exact Kd.R_mono HO659.out (fun _ hk => ⟨hk.1.1.1.2, ⟨hk.1.1.2, ⟨hk.1.2, hk.2⟩⟩⟩)⟩, ⟨by (with_reducible repeat (first | apply Kd.R_alloc | apply Kd.R_drewN | apply Kd.R_drew)); exact Kd.R_mono HO669.out (fun _ hk => ⟨hk.1.1.1.1.2, ⟨hk.1.1.2, ⟨hk.1.2, hk.2⟩⟩⟩)⟩, ⟨by (with_reducible repeat (first | apply Kd.R_alloc | apply Kd.R_drewN | apply Kd.R_drew)); exact Kd.R_mono HO674.out (fun _ hk => ⟨hk.1.1.1.1.2, ⟨hk.1.1.2, ⟨hk.1.2, hk.2⟩⟩⟩)⟩, ⟨by (with_reducible repeat (first | apply Kd.R_alloc | apply Kd.R_drewN | apply Kd.R_drew)); exact Kd.R_mono HO679.out (fun _ hk => ⟨hk.1.1.1.1.2, ⟨hk.1.1.2, ⟨hk.1.2, hk.2⟩⟩⟩)⟩, ⟨by (with_reducible repeat (first | apply Kd.R_alloc | apply Kd.R_drewN | apply Kd.R_drew)); exact Kd.R_mono HO684.out (fun _ hk => ⟨hk.1.1.1.1.2, ⟨hk.1.1.2, ⟨hk.1.2, hk.2⟩⟩⟩)⟩, ⟨by (with_reducible repeat (first | refine blk_drewN ?_ _ | refine blk_drew ?_ | refine blk_alloc ?_ _)); exact BK651.out⟩, ⟨by repeat (first | (with_reducible first | exact HB.out | apply below_alloc | apply pw_below_drewN | apply below_drew1 | refine below_set ?_ GE651.out) | exact HB.out)⟩⟩
        ·replace c37 := Bool.eq_false_iff.mpr c37
         subst c37
         have H1 : (numnahlaw06_WettingGrows.j0 k t652 t653 t657 t665 t670 t675 t680 true) = some r := by rw [if_neg (show ¬ (false = true) by decide)] at H; exact H
         clear H
         have H := H1
         clear H1
         have H' := Aside0.mk H
         clear H
         obtain ⟨Ao48, co48, eo48⟩ := Kd.R_slice HO669.out
         subst eo48
         go_wp2_with (first | (go_at_call 30; (with_reducible refine (numnahlaw06_within.calls k t652 _ _ t665 true _ ?side1 ?side2 A34.out).mono ?_); (case side1 => repeat (first | exact (Kd.R_reads' HO669.out).2.2 | (with_reducible refine Kd.C_alloc ?_ _) | (with_reducible refine Kd.C_drewN ?_ _) | (with_reducible refine Kd.C_drew ?_))); (case side2 => exact (Kd.R_reads' HO669.out).2.1); rintro e w' ⟨rfl, ⟨nd, rfl⟩⟩; obtain ⟨Ao49, co49, eo49⟩ := Kd.R_slice HO674.out; subst eo49) | (go_at_call 30; (with_reducible refine (numnahlaw06_within.calls k t652 _ _ t670 false _ ?side1 ?side2 A36.out).mono ?_); (case side1 => repeat (first | exact (Kd.R_reads' HO674.out).2.2 | (with_reducible refine Kd.C_alloc ?_ _) | (with_reducible refine Kd.C_drewN ?_ _) | (with_reducible refine Kd.C_drew ?_))); (case side2 => exact (Kd.R_reads' HO674.out).2.1); rintro e w' ⟨rfl, ⟨nd, rfl⟩⟩))
         go_meet
         case rel => exact ⟨_, (true), (by first | rfl | (simp; done) | (simp [*]; done)), H', ⟨by first | omega | exact Nat.le_refl _⟩, ⟨by (with_reducible repeat (first | apply Kd.R_alloc | apply Kd.R_drewN | apply Kd.R_drew)); exact HO655.out⟩, ⟨by (with_reducible repeat (first | apply Kd.R_alloc | apply Kd.R_drewN | apply Kd.R_drew)); exact Kd.R_mono HO659.out (fun _ hk => ⟨hk.1.1.1.2, ⟨hk.1.1.2, ⟨hk.1.2, hk.2⟩⟩⟩)⟩, ⟨by (with_reducible repeat (first | apply Kd.R_alloc | apply Kd.R_drewN | apply Kd.R_drew)); exact Kd.R_mono HO669.out (fun _ hk => ⟨hk.1.1.1.1.2, ⟨hk.1.1.2, ⟨hk.1.2, hk.2⟩⟩⟩)⟩, ⟨by (with_reducible repeat (first | apply Kd.R_alloc | apply Kd.R_drewN | apply Kd.R_drew)); exact Kd.R_mono HO674.out (fun _ hk => ⟨hk.1.1.1.1.2, ⟨hk.1.1.2, ⟨hk.1.2, hk.2⟩⟩⟩)⟩, ⟨by (with_reducible repeat (first | apply Kd.R_alloc | apply Kd.R_drewN | apply Kd.R_drew)); exact Kd.R_mono HO679.out (fun _ hk => ⟨hk.1.1.1.1.2, ⟨hk.1.1.2, ⟨hk.1.2, hk.2⟩⟩⟩)⟩, ⟨by (with_reducible repeat (first | apply Kd.R_alloc | apply Kd.R_drewN | apply Kd.R_drew)); exact Kd.R_mono HO684.out (fun _ hk => ⟨hk.1.1.1.1.2, ⟨hk.1.1.2, ⟨hk.1.2, hk.2⟩⟩⟩)⟩, ⟨by (with_reducible repeat (first | refine blk_drewN ?_ _ | refine blk_drew ?_ | refine blk_alloc ?_ _)); exact BK651.out⟩, ⟨by repeat (first | (with_reducible first | exact HB.out | apply below_alloc | apply pw_below_drewN | apply below_drew1 | refine below_set ?_ GE651.out) | exact HB.out)⟩⟩
       ·replace c35 := Bool.eq_false_iff.mpr c35
        subst c35
        have H1 : (numnahlaw06_WettingGrows.j0 k t652 t653 t657 t665 t670 t675 t680 true) = some r := by rw [if_neg (show ¬ (false = true) by decide)] at H; exact H
        clear H
        have H := H1
        clear H1
        have H' := Aside0.mk H
        clear H
        obtain ⟨Ao50, co50, eo50⟩ := Kd.R_slice HO669.out
        subst eo50
        go_wp2_with (first | (go_at_call 30; (with_reducible refine (numnahlaw06_within.calls k t652 _ _ t665 false _ ?side1 ?side2 A34.out).mono ?_); (case side1 => repeat (first | exact (Kd.R_reads' HO669.out).2.2 | (with_reducible refine Kd.C_alloc ?_ _) | (with_reducible refine Kd.C_drewN ?_ _) | (with_reducible refine Kd.C_drew ?_))); (case side2 => exact (Kd.R_reads' HO669.out).2.1); rintro e w' ⟨rfl, ⟨nd, rfl⟩⟩))
        go_meet
        case rel => exact ⟨_, (true), (by first | rfl | (simp; done) | (simp [*]; done)), H', ⟨by first | omega | exact Nat.le_refl _⟩, ⟨by (with_reducible repeat (first | apply Kd.R_alloc | apply Kd.R_drewN | apply Kd.R_drew)); exact HO655.out⟩, ⟨by (with_reducible repeat (first | apply Kd.R_alloc | apply Kd.R_drewN | apply Kd.R_drew)); exact Kd.R_mono HO659.out (fun _ hk => ⟨hk.1.1.1.2, ⟨hk.1.1.2, ⟨hk.1.2, hk.2⟩⟩⟩)⟩, ⟨by (with_reducible repeat (first | apply Kd.R_alloc | apply Kd.R_drewN | apply Kd.R_drew)); exact Kd.R_mono HO669.out (fun _ hk => ⟨hk.1.1.1.1.2, ⟨hk.1.1.2, ⟨hk.1.2, hk.2⟩⟩⟩)⟩, ⟨by (with_reducible repeat (first | apply Kd.R_alloc | apply Kd.R_drewN | apply Kd.R_drew)); exact Kd.R_mono HO674.out (fun _ hk => ⟨hk.1.1.1.1.2, ⟨hk.1.1.2, ⟨hk.1.2, hk.2⟩⟩⟩)⟩, ⟨by (with_reducible repeat (first | apply Kd.R_alloc | apply Kd.R_drewN | apply Kd.R_drew)); exact Kd.R_mono HO679.out (fun _ hk => ⟨hk.1.1.1.1.2, ⟨hk.1.1.2, ⟨hk.1.2, hk.2⟩⟩⟩)⟩, ⟨by (with_reducible repeat (first | apply Kd.R_alloc | apply Kd.R_drewN | apply Kd.R_drew)); exact Kd.R_mono HO684.out (fun _ hk => ⟨hk.1.1.1.1.2, ⟨hk.1.1.2, ⟨hk.1.2, hk.2⟩⟩⟩)⟩, ⟨by (with_reducible repeat (first | refine blk_drewN ?_ _ | refine blk_drew ?_ | refine blk_alloc ?_ _)); exact BK651.out⟩, ⟨by repeat (first | (with_reducible first | exact HB.out | apply below_alloc | apply pw_below_drewN | apply below_drew1 | refine below_set ?_ GE651.out) | exact HB.out)⟩⟩
      ·rw [if_neg c33] at H
       have c33b0 : (t682 == 0) = false := beq_eq_false_iff_ne.mpr c33
       have c33b1 : (t682 != 0) = true := bne_iff_ne.mpr c33
       have H' := Aside0.mk H
       clear H
       go_wp2
       go_meet
       case rel => exact ⟨_, (true), (by first | rfl | (simp; done) | (simp [*]; done)), H', ⟨by first | omega | exact Nat.le_refl _⟩, ⟨by (with_reducible repeat (first | apply Kd.R_alloc | apply Kd.R_drewN | apply Kd.R_drew)); exact HO655.out⟩, ⟨by (with_reducible repeat (first | apply Kd.R_alloc | apply Kd.R_drewN | apply Kd.R_drew)); exact Kd.R_mono HO659.out (fun _ hk => ⟨hk.1.1.1.2, ⟨hk.1.1.2, ⟨hk.1.2, hk.2⟩⟩⟩)⟩, ⟨by (with_reducible repeat (first | apply Kd.R_alloc | apply Kd.R_drewN | apply Kd.R_drew)); exact Kd.R_mono HO669.out (fun _ hk => ⟨hk.1.1.1.1.2, ⟨hk.1.1.2, ⟨hk.1.2, hk.2⟩⟩⟩)⟩, ⟨by (with_reducible repeat (first | apply Kd.R_alloc | apply Kd.R_drewN | apply Kd.R_drew)); exact Kd.R_mono HO674.out (fun _ hk => ⟨hk.1.1.1.1.2, ⟨hk.1.1.2, ⟨hk.1.2, hk.2⟩⟩⟩)⟩, ⟨by (with_reducible repeat (first | apply Kd.R_alloc | apply Kd.R_drewN | apply Kd.R_drew)); exact Kd.R_mono HO679.out (fun _ hk => ⟨hk.1.1.1.1.2, ⟨hk.1.1.2, ⟨hk.1.2, hk.2⟩⟩⟩)⟩, ⟨by (with_reducible repeat (first | apply Kd.R_alloc | apply Kd.R_drewN | apply Kd.R_drew)); exact Kd.R_mono HO684.out (fun _ hk => ⟨hk.1.1.1.1.2, ⟨hk.1.1.2, ⟨hk.1.2, hk.2⟩⟩⟩)⟩, ⟨by (with_reducible repeat (first | refine blk_drewN ?_ _ | refine blk_drew ?_ | refine blk_alloc ?_ _)); exact BK651.out⟩, ⟨by repeat (first | (with_reducible first | exact HB.out | apply below_alloc | apply pw_below_drewN | apply below_drew1 | refine below_set ?_ GE651.out) | exact HB.out)⟩⟩
     ·rw [if_neg c32] at H
      have c32b0 : (t677 == 0) = false := beq_eq_false_iff_ne.mpr c32
      have c32b1 : (t677 != 0) = true := bne_iff_ne.mpr c32
      have H' := Aside0.mk H
      clear H
      go_wp2
      go_meet
      case rel => exact ⟨_, (true), (by first | rfl | (simp; done) | (simp [*]; done)), H', ⟨by first | omega | exact Nat.le_refl _⟩, ⟨by (with_reducible repeat (first | apply Kd.R_alloc | apply Kd.R_drewN | apply Kd.R_drew)); exact HO655.out⟩, ⟨by (with_reducible repeat (first | apply Kd.R_alloc | apply Kd.R_drewN | apply Kd.R_drew)); exact Kd.R_mono HO659.out (fun _ hk => ⟨hk.1.1.1.2, ⟨hk.1.1.2, ⟨hk.1.2, hk.2⟩⟩⟩)⟩, ⟨by (with_reducible repeat (first | apply Kd.R_alloc | apply Kd.R_drewN | apply Kd.R_drew)); exact Kd.R_mono HO669.out (fun _ hk => ⟨hk.1.1.1.1.2, ⟨hk.1.1.2, ⟨hk.1.2, hk.2⟩⟩⟩)⟩, ⟨by (with_reducible repeat (first | apply Kd.R_alloc | apply Kd.R_drewN | apply Kd.R_drew)); exact Kd.R_mono HO674.out (fun _ hk => ⟨hk.1.1.1.1.2, ⟨hk.1.1.2, ⟨hk.1.2, hk.2⟩⟩⟩)⟩, ⟨by (with_reducible repeat (first | apply Kd.R_alloc | apply Kd.R_drewN | apply Kd.R_drew)); exact Kd.R_mono HO679.out (fun _ hk => ⟨hk.1.1.1.1.2, ⟨hk.1.1.2, ⟨hk.1.2, hk.2⟩⟩⟩)⟩, ⟨by (with_reducible repeat (first | apply Kd.R_alloc | apply Kd.R_drewN | apply Kd.R_drew)); exact Kd.R_mono HO684.out (fun _ hk => ⟨hk.1.1.1.1.2, ⟨hk.1.1.2, ⟨hk.1.2, hk.2⟩⟩⟩)⟩, ⟨by (with_reducible repeat (first | refine blk_drewN ?_ _ | refine blk_drew ?_ | refine blk_alloc ?_ _)); exact BK651.out⟩, ⟨by repeat (first | (with_reducible first | exact HB.out | apply below_alloc | apply pw_below_drewN | apply below_drew1 | refine below_set ?_ GE651.out) | exact HB.out)⟩⟩
    ·rw [if_neg c31] at H
     have c31b0 : (t672 == 0) = false := beq_eq_false_iff_ne.mpr c31
     have c31b1 : (t672 != 0) = true := bne_iff_ne.mpr c31
     have H' := Aside0.mk H
     clear H
     go_wp2
     go_meet
     case rel => exact ⟨_, (true), (by first | rfl | (simp; done) | (simp [*]; done)), H', ⟨by first | omega | exact Nat.le_refl _⟩, ⟨by (with_reducible repeat (first | apply Kd.R_alloc | apply Kd.R_drewN | apply Kd.R_drew)); exact HO655.out⟩, ⟨by (with_reducible repeat (first | apply Kd.R_alloc | apply Kd.R_drewN | apply Kd.R_drew)); exact Kd.R_mono HO659.out (fun _ hk => ⟨hk.1.1.1.2, ⟨hk.1.1.2, ⟨hk.1.2, hk.2⟩⟩⟩)⟩, ⟨by (with_reducible repeat (first | apply Kd.R_alloc | apply Kd.R_drewN | apply Kd.R_drew)); exact Kd.R_mono HO669.out (fun _ hk => ⟨hk.1.1.1.1.2, ⟨hk.1.1.2, ⟨hk.1.2, hk.2⟩⟩⟩)⟩, ⟨by (with_reducible repeat (first | apply Kd.R_alloc | apply Kd.R_drewN | apply Kd.R_drew)); exact Kd.R_mono HO674.out (fun _ hk => ⟨hk.1.1.1.1.2, ⟨hk.1.1.2, ⟨hk.1.2, hk.2⟩⟩⟩)⟩, ⟨by (with_reducible repeat (first | apply Kd.R_alloc | apply Kd.R_drewN | apply Kd.R_drew)); exact Kd.R_mono HO679.out (fun _ hk => ⟨hk.1.1.1.1.2, ⟨hk.1.1.2, ⟨hk.1.2, hk.2⟩⟩⟩)⟩, ⟨by (with_reducible repeat (first | apply Kd.R_alloc | apply Kd.R_drewN | apply Kd.R_drew)); exact Kd.R_mono HO684.out (fun _ hk => ⟨hk.1.1.1.1.2, ⟨hk.1.1.2, ⟨hk.1.2, hk.2⟩⟩⟩)⟩, ⟨by (with_reducible repeat (first | refine blk_drewN ?_ _ | refine blk_drew ?_ | refine blk_alloc ?_ _)); exact BK651.out⟩, ⟨by repeat (first | (with_reducible first | exact HB.out | apply below_alloc | apply pw_below_drewN | apply below_drew1 | refine below_set ?_ GE651.out) | exact HB.out)⟩⟩
   ·rw [if_neg c30] at H
    have c30b0 : (t667 == 0) = false := beq_eq_false_iff_ne.mpr c30
    have c30b1 : (t667 != 0) = true := bne_iff_ne.mpr c30
    (first | rw [c30b0] | (simp only [i64_w, i32_w]; rw [c30b0]) | skip)
    have H' := Aside0.mk H
    clear H
    go_wp2
    go_meet
    case rel => exact ⟨_, (true), (by first | rfl | (simp; done) | (simp [*]; done)), H', ⟨by first | omega | exact Nat.le_refl _⟩, ⟨by (with_reducible repeat (first | apply Kd.R_alloc | apply Kd.R_drewN | apply Kd.R_drew)); exact HO655.out⟩, ⟨by (with_reducible repeat (first | apply Kd.R_alloc | apply Kd.R_drewN | apply Kd.R_drew)); exact Kd.R_mono HO659.out (fun _ hk => ⟨hk.1.1.1.2, ⟨hk.1.1.2, ⟨hk.1.2, hk.2⟩⟩⟩)⟩, ⟨by (with_reducible repeat (first | apply Kd.R_alloc | apply Kd.R_drewN | apply Kd.R_drew)); exact Kd.R_mono HO669.out (fun _ hk => ⟨hk.1.1.1.1.2, ⟨hk.1.1.2, ⟨hk.1.2, hk.2⟩⟩⟩)⟩, ⟨by (with_reducible repeat (first | apply Kd.R_alloc | apply Kd.R_drewN | apply Kd.R_drew)); exact Kd.R_mono HO674.out (fun _ hk => ⟨hk.1.1.1.1.2, ⟨hk.1.1.2, ⟨hk.1.2, hk.2⟩⟩⟩)⟩, ⟨by (with_reducible repeat (first | apply Kd.R_alloc | apply Kd.R_drewN | apply Kd.R_drew)); exact Kd.R_mono HO679.out (fun _ hk => ⟨hk.1.1.1.1.2, ⟨hk.1.1.2, ⟨hk.1.2, hk.2⟩⟩⟩)⟩, ⟨by (with_reducible repeat (first | apply Kd.R_alloc | apply Kd.R_drewN | apply Kd.R_drew)); exact Kd.R_mono HO684.out (fun _ hk => ⟨hk.1.1.1.1.2, ⟨hk.1.1.2, ⟨hk.1.2, hk.2⟩⟩⟩)⟩, ⟨by (with_reducible repeat (first | refine blk_drewN ?_ _ | refine blk_drew ?_ | refine blk_alloc ?_ _)); exact BK651.out⟩, ⟨by repeat (first | (with_reducible first | exact HB.out | apply below_alloc | apply pw_below_drewN | apply below_drew1 | refine below_set ?_ GE651.out) | exact HB.out)⟩⟩
  case rest => as_aux_lemma =>
   clear HC16
   try clear c1
   try clear c2
   try clear p2
   try clear c3
   try clear c4
   try clear p6
   try clear c9
   try clear c9b0
   try clear c9b1
   try clear c13
   try clear c25
   try clear c27
   try clear c28
   try clear c29
   try clear c30
   try clear c30b0
   try clear c30b1
   try clear c31
   try clear c31b0
   try clear c31b1
   try clear c32
   try clear c32b0
   try clear c32b1
   try clear c33
   try clear c33b0
   try clear c33b1
   try clear c35
   try clear c37
   try clear c39
   try clear c48
   try clear hcz19_0
   try clear hcz19_1
   try clear hcz19_2
   try clear hfz19_0
   try clear hfz19_1
   try clear hfz19_2
   obtain ⟨kq, x122_15, rfl, HA, HJ15, HO_7, HO_9, HO_11, HO_14, HO_17, HO_20, BK651, HB⟩ := hcut
   cases kq with
   | zero => exact absurd HA.out (by simp [numnahlaw06_WettingGrows.j0])
   | succ kj15 =>
    have H := HA.out
    clear HA
    simp only [numnahlaw06_WettingGrows.j0] at H
    by_cases c51 : x122_15 = true
    ·subst c51
     have H1 : (some false) = some r := by rw [if_pos rfl] at H; exact H
     clear H
     have H := H1
     clear H1
     obtain rfl := Option.some.inj H
     go_wp2
     go_ret
     exact ⟨by first | rfl | (simp [errW_none, errW_some] <;> rfl) | (simp only [← hji10]; first | rfl | (simp [errW_none, errW_some] <;> rfl)) | (simp [*, errW_none, errW_some] <;> rfl), by repeat (first | (with_reducible first | exact HB.out | apply below_alloc | apply pw_below_drewN | apply below_drew1 | refine below_set ?_ GE651.out) | exact HB.out)⟩
    ·replace c51 := Bool.eq_false_iff.mpr c51
     subst c51
     have H1 : ((numnahref06_Set.f kj15 t657).bind fun t689 => ((numnahref06_Set.f kj15 t665).bind fun t690 => (if (Go.bits .andNot .i64 t689 t690) = 0 then ((numnahref06_Set.f kj15 t665).bind fun t691 => ((numnahref06_Set.f kj15 t670).bind fun t692 => (if (Go.bits .andNot .i64 t691 t692) = 0 then ((numnahref06_Set.f kj15 t657).bind fun t693 => ((numnahref06_Set.f kj15 t675).bind fun t694 => (if (Go.bits .andNot .i64 t693 t694) = 0 then ((numnahref06_Set.f kj15 t675).bind fun t695 => ((numnahref06_Set.f kj15 t680).bind fun t696 => (numnahlaw06_WettingGrows.j1 kj15 t652 t653 t657 t665 ((Go.bits .andNot .i64 t695 t696) != 0)))) else (numnahlaw06_WettingGrows.j1 kj15 t652 t653 t657 t665 true)))) else (numnahlaw06_WettingGrows.j1 kj15 t652 t653 t657 t665 true)))) else (numnahlaw06_WettingGrows.j1 kj15 t652 t653 t657 t665 true)))) = some r := by rw [if_neg (show ¬ (false = true) by decide)] at H; exact H
     clear H
     have H := H1
     clear H1
     have HC52 := Aside0.mk H
     clear H
     go_upto_region 11 with (fail)
     go_cut [152] (fun v152 wc => ∃ (kq : Nat) (x152_51 : Bool), v152 = .bool x152_51 ∧ Aside0 (numnahlaw06_WettingGrows.j1 kq t652 t653 t657 t665 x152_51 = some r) ∧ Aside0 (kq ≤ kj15) ∧ Aside0 (Kd.R k48 48 wc w.heap.size (fun _ => True) (.slice Ao24 t653.length co24) t653) ∧ Aside0 (Kd.R (Kd.int .i64) 3 wc w.heap.size (fun k_ => some k_ ≠ (v668 : Value).ownBlock) (.slice Ao22 t657.length co22) t657) ∧ Aside0 (Kd.R (Kd.int .i64) 3 wc w.heap.size (fun k_ => some k_ ≠ ((.slice Ao22 t657.length co22) : Value).ownBlock) v668 t665) ∧ Aside0 (wc.heap[gb651]? = some (.cells #[.int .i64 a2_0, .int .i64 a2_1, .int .i64 a2_2] 64 (0, 0))) ∧ Aside0 (Below w.heap.size w wc))
     case first =>
      have H := HC52.out
      clear HC52
      replace H := Option.bind_eq_some_iff.mp H
      obtain ⟨t689, A530, H⟩ := H
      replace H : ((numnahref06_Set.f kj15 t665).bind fun t690 => (if (Go.bits .andNot .i64 t689 t690) = 0 then ((numnahref06_Set.f kj15 t665).bind fun t691 => ((numnahref06_Set.f kj15 t670).bind fun t692 => (if (Go.bits .andNot .i64 t691 t692) = 0 then ((numnahref06_Set.f kj15 t657).bind fun t693 => ((numnahref06_Set.f kj15 t675).bind fun t694 => (if (Go.bits .andNot .i64 t693 t694) = 0 then ((numnahref06_Set.f kj15 t675).bind fun t695 => ((numnahref06_Set.f kj15 t680).bind fun t696 => (numnahlaw06_WettingGrows.j1 kj15 t652 t653 t657 t665 ((Go.bits .andNot .i64 t695 t696) != 0)))) else (numnahlaw06_WettingGrows.j1 kj15 t652 t653 t657 t665 true)))) else (numnahlaw06_WettingGrows.j1 kj15 t652 t653 t657 t665 true)))) else (numnahlaw06_WettingGrows.j1 kj15 t652 t653 t657 t665 true))) = some r := H
      have A53 := Aside0.mk A530
      clear A530
      replace H := Option.bind_eq_some_iff.mp H
      obtain ⟨t690, A540, H⟩ := H
      replace H : (if (Go.bits .andNot .i64 t689 t690) = 0 then ((numnahref06_Set.f kj15 t665).bind fun t691 => ((numnahref06_Set.f kj15 t670).bind fun t692 => (if (Go.bits .andNot .i64 t691 t692) = 0 then ((numnahref06_Set.f kj15 t657).bind fun t693 => ((numnahref06_Set.f kj15 t675).bind fun t694 => (if (Go.bits .andNot .i64 t693 t694) = 0 then ((numnahref06_Set.f kj15 t675).bind fun t695 => ((numnahref06_Set.f kj15 t680).bind fun t696 => (numnahlaw06_WettingGrows.j1 kj15 t652 t653 t657 t665 ((Go.bits .andNot .i64 t695 t696) != 0)))) else (numnahlaw06_WettingGrows.j1 kj15 t652 t653 t657 t665 true)))) else (numnahlaw06_WettingGrows.j1 kj15 t652 t653 t657 t665 true)))) else (numnahlaw06_WettingGrows.j1 kj15 t652 t653 t657 t665 true)) = some r := H
      have A54 := Aside0.mk A540
      clear A540
      by_cases c55 : (Go.bits .andNot .i64 t689 t690) = 0
      ·rw [if_pos c55] at H
       have c55b0 : ((Go.bits .andNot .i64 t689 t690) == 0) = true := beq_iff_eq.mpr c55
       have c55b1 : ((Go.bits .andNot .i64 t689 t690) != 0) = false := bne_eq_false_iff_eq.mpr c55
       clear c55
       (first | rw [c55b0] | (simp only [i64_w, i32_w]; rw [c55b0]) | skip)
       replace H := Option.bind_eq_some_iff.mp H
       obtain ⟨t691, A560, H⟩ := H
       replace H : ((numnahref06_Set.f kj15 t670).bind fun t692 => (if (Go.bits .andNot .i64 t691 t692) = 0 then ((numnahref06_Set.f kj15 t657).bind fun t693 => ((numnahref06_Set.f kj15 t675).bind fun t694 => (if (Go.bits .andNot .i64 t693 t694) = 0 then ((numnahref06_Set.f kj15 t675).bind fun t695 => ((numnahref06_Set.f kj15 t680).bind fun t696 => (numnahlaw06_WettingGrows.j1 kj15 t652 t653 t657 t665 ((Go.bits .andNot .i64 t695 t696) != 0)))) else (numnahlaw06_WettingGrows.j1 kj15 t652 t653 t657 t665 true)))) else (numnahlaw06_WettingGrows.j1 kj15 t652 t653 t657 t665 true))) = some r := H
       have A56 := Aside0.mk A560
       clear A560
       replace H := Option.bind_eq_some_iff.mp H
       obtain ⟨t692, A570, H⟩ := H
       replace H : (if (Go.bits .andNot .i64 t691 t692) = 0 then ((numnahref06_Set.f kj15 t657).bind fun t693 => ((numnahref06_Set.f kj15 t675).bind fun t694 => (if (Go.bits .andNot .i64 t693 t694) = 0 then ((numnahref06_Set.f kj15 t675).bind fun t695 => ((numnahref06_Set.f kj15 t680).bind fun t696 => (numnahlaw06_WettingGrows.j1 kj15 t652 t653 t657 t665 ((Go.bits .andNot .i64 t695 t696) != 0)))) else (numnahlaw06_WettingGrows.j1 kj15 t652 t653 t657 t665 true)))) else (numnahlaw06_WettingGrows.j1 kj15 t652 t653 t657 t665 true)) = some r := H
       have A57 := Aside0.mk A570
       clear A570
       by_cases c58 : (Go.bits .andNot .i64 t691 t692) = 0
       ·rw [if_pos c58] at H
        have c58b0 : ((Go.bits .andNot .i64 t691 t692) == 0) = true := beq_iff_eq.mpr c58
        have c58b1 : ((Go.bits .andNot .i64 t691 t692) != 0) = false := bne_eq_false_iff_eq.mpr c58
        clear c58
        replace H := Option.bind_eq_some_iff.mp H
        obtain ⟨t693, A590, H⟩ := H
        replace H : ((numnahref06_Set.f kj15 t675).bind fun t694 => (if (Go.bits .andNot .i64 t693 t694) = 0 then ((numnahref06_Set.f kj15 t675).bind fun t695 => ((numnahref06_Set.f kj15 t680).bind fun t696 => (numnahlaw06_WettingGrows.j1 kj15 t652 t653 t657 t665 ((Go.bits .andNot .i64 t695 t696) != 0)))) else (numnahlaw06_WettingGrows.j1 kj15 t652 t653 t657 t665 true))) = some r := H
        have A59 := Aside0.mk A590
        clear A590
        replace H := Option.bind_eq_some_iff.mp H
        obtain ⟨t694, A600, H⟩ := H
        replace H : (if (Go.bits .andNot .i64 t693 t694) = 0 then ((numnahref06_Set.f kj15 t675).bind fun t695 => ((numnahref06_Set.f kj15 t680).bind fun t696 => (numnahlaw06_WettingGrows.j1 kj15 t652 t653 t657 t665 ((Go.bits .andNot .i64 t695 t696) != 0)))) else (numnahlaw06_WettingGrows.j1 kj15 t652 t653 t657 t665 true)) = some r := H
        have A60 := Aside0.mk A600
        clear A600
        by_cases c61 : (Go.bits .andNot .i64 t693 t694) = 0
        ·rw [if_pos c61] at H
         have c61b0 : ((Go.bits .andNot .i64 t693 t694) == 0) = true := beq_iff_eq.mpr c61
         have c61b1 : ((Go.bits .andNot .i64 t693 t694) != 0) = false := bne_eq_false_iff_eq.mpr c61
         clear c61
         replace H := Option.bind_eq_some_iff.mp H
         obtain ⟨t695, A620, H⟩ := H
         replace H : ((numnahref06_Set.f kj15 t680).bind fun t696 => (numnahlaw06_WettingGrows.j1 kj15 t652 t653 t657 t665 ((Go.bits .andNot .i64 t695 t696) != 0))) = some r := H
         have A62 := Aside0.mk A620
         clear A620
         replace H := Option.bind_eq_some_iff.mp H
         obtain ⟨t696, A630, H⟩ := H
         replace H : (numnahlaw06_WettingGrows.j1 kj15 t652 t653 t657 t665 ((Go.bits .andNot .i64 t695 t696) != 0)) = some r := H
         have A63 := Aside0.mk A630
         clear A630
         have H' := Aside0.mk H
         clear H
         have e6_ : t694 = t695 := Option.some.inj (A60.out.symm.trans A62.out)
         subst e6_
         go_wp2_with (first | ((with_reducible refine gate_callee (f := 32) rfl ?_); refine goesL_ (some 124) rfl rfl Tryd.func32 (by kernel_rfl) rfl #[.slice Ao22 t657.length co22] rfl (by (try simp only [List.map_toArray, List.map_cons, List.map_nil]); first | done | rfl | (simp only [List.length_drop, List.length_take]; rfl)) ?_; (with_reducible refine (numnahref06_Set.calls kj15 _ _ t657 t689 _ ?side1 ?side2 A53.out).mono ?_); (case side1 => repeat (first | exact (Kd.R_reads' HO_9.out).2.2 | (with_reducible refine Kd.C_alloc ?_ _) | (with_reducible refine Kd.C_drewN ?_ _) | (with_reducible refine Kd.C_drew ?_))); (case side2 => exact (Kd.R_reads' HO_9.out).2.1); rintro e w' ⟨rfl, ⟨nd, rfl⟩⟩; refine ⟨_, rfl, ?_⟩; obtain ⟨Ao64, co64, eo64⟩ := Kd.R_slice HO_11.out; subst eo64) | ((with_reducible refine gate_callee (f := 32) rfl ?_); refine goesL_ (some 126) rfl rfl Tryd.func32 (by kernel_rfl) rfl #[.slice Ao64 t665.length co64] rfl (by (try simp only [List.map_toArray, List.map_cons, List.map_nil]); first | done | rfl | (simp only [List.length_drop, List.length_take]; rfl)) ?_; (with_reducible refine (numnahref06_Set.calls kj15 _ _ t665 t690 _ ?side1 ?side2 A54.out).mono ?_); (case side1 => repeat (first | exact (Kd.R_reads' HO_11.out).2.2 | (with_reducible refine Kd.C_alloc ?_ _) | (with_reducible refine Kd.C_drewN ?_ _) | (with_reducible refine Kd.C_drew ?_))); (case side2 => exact (Kd.R_reads' HO_11.out).2.1); rintro e w' ⟨rfl, ⟨nd, rfl⟩⟩; refine ⟨_, rfl, ?_⟩) | (go_at_call 32; (with_reducible refine (numnahref06_Set.calls kj15 _ _ t665 t691 _ ?side1 ?side2 A56.out).mono ?_); (case side1 => repeat (first | exact (Kd.R_reads' HO_11.out).2.2 | (with_reducible refine Kd.C_alloc ?_ _) | (with_reducible refine Kd.C_drewN ?_ _) | (with_reducible refine Kd.C_drew ?_))); (case side2 => exact (Kd.R_reads' HO_11.out).2.1); rintro e w' ⟨rfl, ⟨nd, rfl⟩⟩; obtain ⟨Ao65, co65, eo65⟩ := Kd.R_slice HO_14.out; subst eo65) | (go_at_call 32; (with_reducible refine (numnahref06_Set.calls kj15 _ _ t670 t692 _ ?side1 ?side2 A57.out).mono ?_); (case side1 => repeat (first | exact (Kd.R_reads' HO_14.out).2.2 | (with_reducible refine Kd.C_alloc ?_ _) | (with_reducible refine Kd.C_drewN ?_ _) | (with_reducible refine Kd.C_drew ?_))); (case side2 => exact (Kd.R_reads' HO_14.out).2.1); rintro e w' ⟨rfl, ⟨nd, rfl⟩⟩) | (go_at_call 32; (with_reducible refine (numnahref06_Set.calls kj15 _ _ t657 t693 _ ?side1 ?side2 A59.out).mono ?_); (case side1 => repeat (first | exact (Kd.R_reads' HO_9.out).2.2 | (with_reducible refine Kd.C_alloc ?_ _) | (with_reducible refine Kd.C_drewN ?_ _) | (with_reducible refine Kd.C_drew ?_))); (case side2 => exact (Kd.R_reads' HO_9.out).2.1); rintro e w' ⟨rfl, ⟨nd, rfl⟩⟩; obtain ⟨Ao66, co66, eo66⟩ := Kd.R_slice HO_17.out; subst eo66) | (go_at_call 32; (with_reducible refine (numnahref06_Set.calls kj15 _ _ t675 t694 _ ?side1 ?side2 A60.out).mono ?_); (case side1 => repeat (first | exact (Kd.R_reads' HO_17.out).2.2 | (with_reducible refine Kd.C_alloc ?_ _) | (with_reducible refine Kd.C_drewN ?_ _) | (with_reducible refine Kd.C_drew ?_))); (case side2 => exact (Kd.R_reads' HO_17.out).2.1); rintro e w' ⟨rfl, ⟨nd, rfl⟩⟩; (try (obtain ⟨Ao67, co67, eo67⟩ := Kd.R_slice HO_20.out; subst eo67))) | (go_at_call 32; (with_reducible refine (numnahref06_Set.calls kj15 _ _ t675 t694 _ ?side1 ?side2 A62.out).mono ?_); (case side1 => repeat (first | exact (Kd.R_reads' HO_17.out).2.2 | (with_reducible refine Kd.C_alloc ?_ _) | (with_reducible refine Kd.C_drewN ?_ _) | (with_reducible refine Kd.C_drew ?_))); (case side2 => exact (Kd.R_reads' HO_17.out).2.1); rintro e w' ⟨rfl, ⟨nd, rfl⟩⟩; obtain ⟨Ao67, co67, eo67⟩ := Kd.R_slice HO_20.out; subst eo67) | (go_at_call 32; (with_reducible refine (numnahref06_Set.calls kj15 _ _ t680 t696 _ ?side1 ?side2 A63.out).mono ?_); (case side1 => repeat (first | exact (Kd.R_reads' HO_20.out).2.2 | (with_reducible refine Kd.C_alloc ?_ _) | (with_reducible refine Kd.C_drewN ?_ _) | (with_reducible refine Kd.C_drew ?_))); (case side2 => exact (Kd.R_reads' HO_20.out).2.1); rintro e w' ⟨rfl, ⟨nd, rfl⟩⟩))
         go_meet
         case rel => exact ⟨_, (((Go.bits .andNot .i64 t694 t696) != 0)), (by first | rfl | (simp; done) | (simp [*]; done)), H', ⟨by have := HJ15.out; first | omega | exact Nat.le_refl _⟩, ⟨by (with_reducible repeat (first | apply Kd.R_alloc | apply Kd.R_drewN | apply Kd.R_drew)); exact HO_7.out⟩, ⟨by (with_reducible repeat (first | apply Kd.R_alloc | apply Kd.R_drewN | apply Kd.R_drew)); exact Kd.R_mono HO_9.out (fun _ hk => hk.1)⟩, ⟨by (with_reducible repeat (first | apply Kd.R_alloc | apply Kd.R_drewN | apply Kd.R_drew)); exact Kd.R_mono HO_11.out (fun _ hk => hk.1)⟩, ⟨by (with_reducible repeat (first | refine blk_drewN ?_ _ | refine blk_drew ?_ | refine blk_alloc ?_ _)); exact BK651.out⟩, ⟨by repeat (first | (with_reducible first | exact HB.out | apply below_alloc | apply pw_below_drewN | apply below_drew1 | refine below_set ?_ GE651.out) | exact HB.out)⟩⟩
        ·rw [if_neg c61] at H
         have c61b0 : ((Go.bits .andNot .i64 t693 t694) == 0) = false := beq_eq_false_iff_ne.mpr c61
         have c61b1 : ((Go.bits .andNot .i64 t693 t694) != 0) = true := bne_iff_ne.mpr c61
         have H' := Aside0.mk H
         clear H
         go_wp2_with (first | ((with_reducible refine gate_callee (f := 32) rfl ?_); refine goesL_ (some 124) rfl rfl Tryd.func32 (by kernel_rfl) rfl #[.slice Ao22 t657.length co22] rfl (by (try simp only [List.map_toArray, List.map_cons, List.map_nil]); first | done | rfl | (simp only [List.length_drop, List.length_take]; rfl)) ?_; (with_reducible refine (numnahref06_Set.calls kj15 _ _ t657 t689 _ ?side1 ?side2 A53.out).mono ?_); (case side1 => repeat (first | exact (Kd.R_reads' HO_9.out).2.2 | (with_reducible refine Kd.C_alloc ?_ _) | (with_reducible refine Kd.C_drewN ?_ _) | (with_reducible refine Kd.C_drew ?_))); (case side2 => exact (Kd.R_reads' HO_9.out).2.1); rintro e w' ⟨rfl, ⟨nd, rfl⟩⟩; refine ⟨_, rfl, ?_⟩; obtain ⟨Ao68, co68, eo68⟩ := Kd.R_slice HO_11.out; subst eo68) | ((with_reducible refine gate_callee (f := 32) rfl ?_); refine goesL_ (some 126) rfl rfl Tryd.func32 (by kernel_rfl) rfl #[.slice Ao68 t665.length co68] rfl (by (try simp only [List.map_toArray, List.map_cons, List.map_nil]); first | done | rfl | (simp only [List.length_drop, List.length_take]; rfl)) ?_; (with_reducible refine (numnahref06_Set.calls kj15 _ _ t665 t690 _ ?side1 ?side2 A54.out).mono ?_); (case side1 => repeat (first | exact (Kd.R_reads' HO_11.out).2.2 | (with_reducible refine Kd.C_alloc ?_ _) | (with_reducible refine Kd.C_drewN ?_ _) | (with_reducible refine Kd.C_drew ?_))); (case side2 => exact (Kd.R_reads' HO_11.out).2.1); rintro e w' ⟨rfl, ⟨nd, rfl⟩⟩; refine ⟨_, rfl, ?_⟩) | (go_at_call 32; (with_reducible refine (numnahref06_Set.calls kj15 _ _ t665 t691 _ ?side1 ?side2 A56.out).mono ?_); (case side1 => repeat (first | exact (Kd.R_reads' HO_11.out).2.2 | (with_reducible refine Kd.C_alloc ?_ _) | (with_reducible refine Kd.C_drewN ?_ _) | (with_reducible refine Kd.C_drew ?_))); (case side2 => exact (Kd.R_reads' HO_11.out).2.1); rintro e w' ⟨rfl, ⟨nd, rfl⟩⟩; obtain ⟨Ao69, co69, eo69⟩ := Kd.R_slice HO_14.out; subst eo69) | (go_at_call 32; (with_reducible refine (numnahref06_Set.calls kj15 _ _ t670 t692 _ ?side1 ?side2 A57.out).mono ?_); (case side1 => repeat (first | exact (Kd.R_reads' HO_14.out).2.2 | (with_reducible refine Kd.C_alloc ?_ _) | (with_reducible refine Kd.C_drewN ?_ _) | (with_reducible refine Kd.C_drew ?_))); (case side2 => exact (Kd.R_reads' HO_14.out).2.1); rintro e w' ⟨rfl, ⟨nd, rfl⟩⟩) | (go_at_call 32; (with_reducible refine (numnahref06_Set.calls kj15 _ _ t657 t693 _ ?side1 ?side2 A59.out).mono ?_); (case side1 => repeat (first | exact (Kd.R_reads' HO_9.out).2.2 | (with_reducible refine Kd.C_alloc ?_ _) | (with_reducible refine Kd.C_drewN ?_ _) | (with_reducible refine Kd.C_drew ?_))); (case side2 => exact (Kd.R_reads' HO_9.out).2.1); rintro e w' ⟨rfl, ⟨nd, rfl⟩⟩; obtain ⟨Ao70, co70, eo70⟩ := Kd.R_slice HO_17.out; subst eo70) | (go_at_call 32; (with_reducible refine (numnahref06_Set.calls kj15 _ _ t675 t694 _ ?side1 ?side2 A60.out).mono ?_); (case side1 => repeat (first | exact (Kd.R_reads' HO_17.out).2.2 | (with_reducible refine Kd.C_alloc ?_ _) | (with_reducible refine Kd.C_drewN ?_ _) | (with_reducible refine Kd.C_drew ?_))); (case side2 => exact (Kd.R_reads' HO_17.out).2.1); rintro e w' ⟨rfl, ⟨nd, rfl⟩⟩))
         go_meet
         case rel => exact ⟨_, (true), (by first | rfl | (simp; done) | (simp [*]; done)), H', ⟨by have := HJ15.out; first | omega | exact Nat.le_refl _⟩, ⟨by (with_reducible repeat (first | apply Kd.R_alloc | apply Kd.R_drewN | apply Kd.R_drew)); exact HO_7.out⟩, ⟨by (with_reducible repeat (first | apply Kd.R_alloc | apply Kd.R_drewN | apply Kd.R_drew)); exact Kd.R_mono HO_9.out (fun _ hk => hk.1)⟩, ⟨by (with_reducible repeat (first | apply Kd.R_alloc | apply Kd.R_drewN | apply Kd.R_drew)); exact Kd.R_mono HO_11.out (fun _ hk => hk.1)⟩, ⟨by (with_reducible repeat (first | refine blk_drewN ?_ _ | refine blk_drew ?_ | refine blk_alloc ?_ _)); exact BK651.out⟩, ⟨by repeat (first | (with_reducible first | exact HB.out | apply below_alloc | apply pw_below_drewN | apply below_drew1 | refine below_set ?_ GE651.out) | exact HB.out)⟩⟩
       ·rw [if_neg c58] at H
        have c58b0 : ((Go.bits .andNot .i64 t691 t692) == 0) = false := beq_eq_false_iff_ne.mpr c58
        have c58b1 : ((Go.bits .andNot .i64 t691 t692) != 0) = true := bne_iff_ne.mpr c58
        have H' := Aside0.mk H
        clear H
        go_wp2_with (first | ((with_reducible refine gate_callee (f := 32) rfl ?_); refine goesL_ (some 124) rfl rfl Tryd.func32 (by kernel_rfl) rfl #[.slice Ao22 t657.length co22] rfl (by (try simp only [List.map_toArray, List.map_cons, List.map_nil]); first | done | rfl | (simp only [List.length_drop, List.length_take]; rfl)) ?_; (with_reducible refine (numnahref06_Set.calls kj15 _ _ t657 t689 _ ?side1 ?side2 A53.out).mono ?_); (case side1 => repeat (first | exact (Kd.R_reads' HO_9.out).2.2 | (with_reducible refine Kd.C_alloc ?_ _) | (with_reducible refine Kd.C_drewN ?_ _) | (with_reducible refine Kd.C_drew ?_))); (case side2 => exact (Kd.R_reads' HO_9.out).2.1); rintro e w' ⟨rfl, ⟨nd, rfl⟩⟩; refine ⟨_, rfl, ?_⟩; obtain ⟨Ao71, co71, eo71⟩ := Kd.R_slice HO_11.out; subst eo71) | ((with_reducible refine gate_callee (f := 32) rfl ?_); refine goesL_ (some 126) rfl rfl Tryd.func32 (by kernel_rfl) rfl #[.slice Ao71 t665.length co71] rfl (by (try simp only [List.map_toArray, List.map_cons, List.map_nil]); first | done | rfl | (simp only [List.length_drop, List.length_take]; rfl)) ?_; (with_reducible refine (numnahref06_Set.calls kj15 _ _ t665 t690 _ ?side1 ?side2 A54.out).mono ?_); (case side1 => repeat (first | exact (Kd.R_reads' HO_11.out).2.2 | (with_reducible refine Kd.C_alloc ?_ _) | (with_reducible refine Kd.C_drewN ?_ _) | (with_reducible refine Kd.C_drew ?_))); (case side2 => exact (Kd.R_reads' HO_11.out).2.1); rintro e w' ⟨rfl, ⟨nd, rfl⟩⟩; refine ⟨_, rfl, ?_⟩) | (go_at_call 32; (with_reducible refine (numnahref06_Set.calls kj15 _ _ t665 t691 _ ?side1 ?side2 A56.out).mono ?_); (case side1 => repeat (first | exact (Kd.R_reads' HO_11.out).2.2 | (with_reducible refine Kd.C_alloc ?_ _) | (with_reducible refine Kd.C_drewN ?_ _) | (with_reducible refine Kd.C_drew ?_))); (case side2 => exact (Kd.R_reads' HO_11.out).2.1); rintro e w' ⟨rfl, ⟨nd, rfl⟩⟩; obtain ⟨Ao72, co72, eo72⟩ := Kd.R_slice HO_14.out; subst eo72) | (go_at_call 32; (with_reducible refine (numnahref06_Set.calls kj15 _ _ t670 t692 _ ?side1 ?side2 A57.out).mono ?_); (case side1 => repeat (first | exact (Kd.R_reads' HO_14.out).2.2 | (with_reducible refine Kd.C_alloc ?_ _) | (with_reducible refine Kd.C_drewN ?_ _) | (with_reducible refine Kd.C_drew ?_))); (case side2 => exact (Kd.R_reads' HO_14.out).2.1); rintro e w' ⟨rfl, ⟨nd, rfl⟩⟩))
        go_meet
        case rel => exact ⟨_, (true), (by first | rfl | (simp; done) | (simp [*]; done)), H', ⟨by have := HJ15.out; first | omega | exact Nat.le_refl _⟩, ⟨by (with_reducible repeat (first | apply Kd.R_alloc | apply Kd.R_drewN | apply Kd.R_drew)); exact HO_7.out⟩, ⟨by (with_reducible repeat (first | apply Kd.R_alloc | apply Kd.R_drewN | apply Kd.R_drew)); exact Kd.R_mono HO_9.out (fun _ hk => hk.1)⟩, ⟨by (with_reducible repeat (first | apply Kd.R_alloc | apply Kd.R_drewN | apply Kd.R_drew)); exact Kd.R_mono HO_11.out (fun _ hk => hk.1)⟩, ⟨by (with_reducible repeat (first | refine blk_drewN ?_ _ | refine blk_drew ?_ | refine blk_alloc ?_ _)); exact BK651.out⟩, ⟨by repeat (first | (with_reducible first | exact HB.out | apply below_alloc | apply pw_below_drewN | apply below_drew1 | refine below_set ?_ GE651.out) | exact HB.out)⟩⟩
      ·rw [if_neg c55] at H
       have c55b0 : ((Go.bits .andNot .i64 t689 t690) == 0) = false := beq_eq_false_iff_ne.mpr c55
       have c55b1 : ((Go.bits .andNot .i64 t689 t690) != 0) = true := bne_iff_ne.mpr c55
       (first | rw [c55b0] | (simp only [i64_w, i32_w]; rw [c55b0]) | skip)
       have H' := Aside0.mk H
       clear H
       go_wp2_with (first | ((with_reducible refine gate_callee (f := 32) rfl ?_); refine goesL_ (some 124) rfl rfl Tryd.func32 (by kernel_rfl) rfl #[.slice Ao22 t657.length co22] rfl (by (try simp only [List.map_toArray, List.map_cons, List.map_nil]); first | done | rfl | (simp only [List.length_drop, List.length_take]; rfl)) ?_; (with_reducible refine (numnahref06_Set.calls kj15 _ _ t657 t689 _ ?side1 ?side2 A53.out).mono ?_); (case side1 => repeat (first | exact (Kd.R_reads' HO_9.out).2.2 | (with_reducible refine Kd.C_alloc ?_ _) | (with_reducible refine Kd.C_drewN ?_ _) | (with_reducible refine Kd.C_drew ?_))); (case side2 => exact (Kd.R_reads' HO_9.out).2.1); rintro e w' ⟨rfl, ⟨nd, rfl⟩⟩; refine ⟨_, rfl, ?_⟩; obtain ⟨Ao73, co73, eo73⟩ := Kd.R_slice HO_11.out; subst eo73) | ((with_reducible refine gate_callee (f := 32) rfl ?_); refine goesL_ (some 126) rfl rfl Tryd.func32 (by kernel_rfl) rfl #[.slice Ao73 t665.length co73] rfl (by (try simp only [List.map_toArray, List.map_cons, List.map_nil]); first | done | rfl | (simp only [List.length_drop, List.length_take]; rfl)) ?_; (with_reducible refine (numnahref06_Set.calls kj15 _ _ t665 t690 _ ?side1 ?side2 A54.out).mono ?_); (case side1 => repeat (first | exact (Kd.R_reads' HO_11.out).2.2 | (with_reducible refine Kd.C_alloc ?_ _) | (with_reducible refine Kd.C_drewN ?_ _) | (with_reducible refine Kd.C_drew ?_))); (case side2 => exact (Kd.R_reads' HO_11.out).2.1); rintro e w' ⟨rfl, ⟨nd, rfl⟩⟩; refine ⟨_, rfl, ?_⟩))
       go_meet
       case rel => exact ⟨_, (true), (by first | rfl | (simp; done) | (simp [*]; done)), H', ⟨by have := HJ15.out; first | omega | exact Nat.le_refl _⟩, ⟨by (with_reducible repeat (first | apply Kd.R_alloc | apply Kd.R_drewN | apply Kd.R_drew)); exact HO_7.out⟩, ⟨by (with_reducible repeat (first | apply Kd.R_alloc | apply Kd.R_drewN | apply Kd.R_drew)); exact Kd.R_mono HO_9.out (fun _ hk => hk.1)⟩, ⟨by (with_reducible repeat (first | apply Kd.R_alloc | apply Kd.R_drewN | apply Kd.R_drew)); exact Kd.R_mono HO_11.out (fun _ hk => hk.1)⟩, ⟨by (with_reducible repeat (first | refine blk_drewN ?_ _ | refine blk_drew ?_ | refine blk_alloc ?_ _)); exact BK651.out⟩, ⟨by repeat (first | (with_reducible first | exact HB.out | apply below_alloc | apply pw_below_drewN | apply below_drew1 | refine below_set ?_ GE651.out) | exact HB.out)⟩⟩
     case rest => as_aux_lemma =>
      clear HC52
      try clear c1
      try clear c2
      try clear p2
      try clear c3
      try clear c4
      try clear c5
      try clear c6
      try clear p6
      try clear c9
      try clear c9b0
      try clear c9b1
      try clear c13
      try clear c25
      try clear c27
      try clear c28
      try clear c29
      try clear c30
      try clear c30b0
      try clear c30b1
      try clear c31
      try clear c31b0
      try clear c31b1
      try clear c32
      try clear c32b0
      try clear c32b1
      try clear c33
      try clear c33b0
      try clear c33b1
      try clear c35
      try clear c37
      try clear c39
      try clear c48
      try clear c51
      try clear c55
      try clear c55b0
      try clear c55b1
      try clear c58
      try clear c58b0
      try clear c58b1
      try clear c61
      try clear c61b0
      try clear c61b1
      try clear p64
      try clear hcz19_0
      try clear hcz19_1
      try clear hcz19_2
      try clear hfz19_0
      try clear hfz19_1
      try clear hfz19_2
      try clear p2
      try clear p6
      obtain ⟨kq, x152_51, rfl, HA, HJ51, HO_7, HO_9, HO_11, BK651, HB⟩ := hcut
      cases kq with
      | zero => exact absurd HA.out (by simp [numnahlaw06_WettingGrows.j1])
      | succ kj51 =>
       have H := HA.out
       clear HA
       simp only [numnahlaw06_WettingGrows.j1] at H
       by_cases c74 : x152_51 = true
       ·subst c74
        have H1 : (some false) = some r := by rw [if_pos rfl] at H; exact H
        clear H
        have H := H1
        clear H1
        obtain rfl := Option.some.inj H
        go_wp2
        go_ret
        exact ⟨by first | rfl | (simp [errW_none, errW_some] <;> rfl) | (simp only [← hji10]; first | rfl | (simp [errW_none, errW_some] <;> rfl)) | (simp [*, errW_none, errW_some] <;> rfl), by repeat (first | (with_reducible first | exact HB.out | apply below_alloc | apply pw_below_drewN | apply below_drew1 | refine below_set ?_ GE651.out) | exact HB.out)⟩
       ·replace c74 := Bool.eq_false_iff.mpr c74
        subst c74
        have H1 : ((wetting_Close.f t652 t653 t665).bind fun bt697 => ((wetting_Fort.f t652 t653 t657).bind fun bt702 => (if bt697.2.2 = 0 then (if bt697.2.1 = 0 then ((numnahlaw06_ints.f kj51 bt697.1 t665).bind fun t706 => (if t706 = true then (numnahlaw06_WettingGrows.j2 kj51 t652 t665 bt702.1 bt702.2 ((bt702.2 == 0) != (decide ((t665.length : Int) < t652)))) else (numnahlaw06_WettingGrows.j2 kj51 t652 t665 bt702.1 bt702.2 true))) else (numnahlaw06_WettingGrows.j2 kj51 t652 t665 bt702.1 bt702.2 true)) else (numnahlaw06_WettingGrows.j2 kj51 t652 t665 bt702.1 bt702.2 true)))) = some r := by rw [if_neg (show ¬ (false = true) by decide)] at H; exact H
        clear H
        have H := H1
        clear H1
        replace H := Option.bind_eq_some_iff.mp H
        obtain ⟨⟨t697, t698, t699⟩, A750, H⟩ := H
        replace H : ((wetting_Fort.f t652 t653 t657).bind fun bt702 => (if t699 = 0 then (if t698 = 0 then ((numnahlaw06_ints.f kj51 t697 t665).bind fun t706 => (if t706 = true then (numnahlaw06_WettingGrows.j2 kj51 t652 t665 bt702.1 bt702.2 ((bt702.2 == 0) != (decide ((t665.length : Int) < t652)))) else (numnahlaw06_WettingGrows.j2 kj51 t652 t665 bt702.1 bt702.2 true))) else (numnahlaw06_WettingGrows.j2 kj51 t652 t665 bt702.1 bt702.2 true)) else (numnahlaw06_WettingGrows.j2 kj51 t652 t665 bt702.1 bt702.2 true))) = some r := H
        have A75 := Aside0.mk A750
        clear A750
        replace H := Option.bind_eq_some_iff.mp H
        obtain ⟨⟨t702, t703⟩, A760, H⟩ := H
        replace H : (if t699 = 0 then (if t698 = 0 then ((numnahlaw06_ints.f kj51 t697 t665).bind fun t706 => (if t706 = true then (numnahlaw06_WettingGrows.j2 kj51 t652 t665 t702 t703 ((t703 == 0) != (decide ((t665.length : Int) < t652)))) else (numnahlaw06_WettingGrows.j2 kj51 t652 t665 t702 t703 true))) else (numnahlaw06_WettingGrows.j2 kj51 t652 t665 t702 t703 true)) else (numnahlaw06_WettingGrows.j2 kj51 t652 t665 t702 t703 true)) = some r := H
        have A76 := Aside0.mk A760
        clear A760
        have HC77 := Aside0.mk H
        clear H
        obtain ⟨Ao78, co78, eo78⟩ := Kd.R_slice HO_11.out
        subst eo78
        go_upto_region 15 with (first | ((with_reducible refine gate_callee (f := 29) rfl ?_); refine goesL_ (some 157) rfl rfl Tryd.func29 (by kernel_rfl) rfl #[.int .i64 t652, .slice Ao24 t653.length co24, .slice Ao78 t665.length co78] rfl (by (try simp only [List.map_toArray, List.map_cons, List.map_nil]); first | done | rfl | (simp only [List.length_drop, List.length_take]; rfl)) ?_; (with_reducible refine (wetting_Close.calls t652 _ _ t653 _ _ t665 t697 t698 t699 _ ?side1 ?side2 ?side3 ?side4 A75.out ?sideT).mono ?_); (case sideT => exact tab_of (by repeat (first | (with_reducible first | exact HB.out | apply below_alloc | apply pw_below_drewN | apply below_drew1) | exact HB.out)) HT.out); (case side1 => repeat (first | exact (Kd.R_reads' HO_7.out).2.2 | (with_reducible refine Kd.C_alloc ?_ _) | (with_reducible refine Kd.C_drewN ?_ _) | (with_reducible refine Kd.C_drew ?_))); (case side2 => exact (Kd.R_reads' HO_7.out).2.1); (case side3 => repeat (first | exact (Kd.R_reads' HO_11.out).2.2 | (with_reducible refine Kd.C_alloc ?_ _) | (with_reducible refine Kd.C_drewN ?_ _) | (with_reducible refine Kd.C_drew ?_))); (case side4 => exact (Kd.R_reads' HO_11.out).2.1); rintro e w79 ⟨v700, rfl, ho0, hb⟩; refine ⟨_, rfl, ?_⟩; have n0_ := Aside0.mk (Kd.R_below (by (with_reducible repeat (first | apply Kd.R_alloc | apply Kd.R_drewN | apply Kd.R_drew)); exact HO_7.out) hb); have n1_ := Aside0.mk (Kd.R_elder' (by (with_reducible repeat (first | apply Kd.R_alloc | apply Kd.R_drewN | apply Kd.R_drew)); exact HO_9.out) (Kd.R_base ho0) hb); have n2_ := Aside0.mk (Kd.R_elder' (by (with_reducible repeat (first | apply Kd.R_alloc | apply Kd.R_drewN | apply Kd.R_drew)); exact HO_11.out) (Kd.R_base ho0) hb); have n3_ := Aside0.mk (Kd.R_lower (Kd.R_new' (Kd.R_new' ho0 (Kd.R_lt (by (with_reducible repeat (first | apply Kd.R_alloc | apply Kd.R_drewN | apply Kd.R_drew)); exact HO_9.out))) (Kd.R_lt (by (with_reducible repeat (first | apply Kd.R_alloc | apply Kd.R_drewN | apply Kd.R_drew)); exact HO_11.out))) (below_size (by repeat (first | (with_reducible first | exact HB.out | apply below_alloc | apply pw_below_drewN | apply below_drew1 | refine below_set ?_ GE651.out) | exact HB.out)))); have n4_ := Aside0.mk (blk_below (g := gb651) (o := .cells #[.int .i64 a2_0, .int .i64 a2_1, .int .i64 a2_2] 64 (0, 0)) (by (with_reducible repeat (first | refine blk_drewN ?_ _ | refine blk_drew ?_ | refine blk_alloc ?_ _)); exact BK651.out) hb); have n5_ := Aside0.mk (below_step (by repeat (first | (with_reducible first | exact HB.out | apply below_alloc | apply pw_below_drewN | apply below_drew1 | refine below_set ?_ GE651.out) | exact HB.out)) hb); clear HO_7; clear HO_9; clear HO_11; clear BK651; clear HB; have HO_7 := n0_; have HO_9 := n1_; have HO_11 := n2_; have HO701 := n3_; have BK651 := n4_; have HB := n5_; clear n0_ n1_ n2_ n3_ n4_ n5_; (try clear hb); (try clear hb2); (try clear hk); (try clear hi); (try clear ho0)) | ((with_reducible refine gate_callee (f := 46) rfl ?_); refine goesL_ (some 165) rfl rfl Tryd.func46 (by kernel_rfl) rfl #[.int .i64 t652, .slice Ao24 t653.length co24, .slice Ao22 t657.length co22] rfl (by (try simp only [List.map_toArray, List.map_cons, List.map_nil]); first | done | rfl | (simp only [List.length_drop, List.length_take]; rfl)) ?_; (with_reducible refine (wetting_Fort.calls t652 _ _ t653 _ _ t657 t702 t703 _ ?side1 ?side2 ?side3 ?side4 A76.out ?sideT).mono ?_); (case sideT => exact tab_of (by repeat (first | (with_reducible first | exact HB.out | apply below_alloc | apply pw_below_drewN | apply below_drew1) | exact HB.out)) HT.out); (case side1 => repeat (first | exact (Kd.R_reads' HO_7.out).2.2 | (with_reducible refine Kd.C_alloc ?_ _) | (with_reducible refine Kd.C_drewN ?_ _) | (with_reducible refine Kd.C_drew ?_))); (case side2 => exact (Kd.R_reads' HO_7.out).2.1); (case side3 => repeat (first | exact (Kd.R_reads' HO_9.out).2.2 | (with_reducible refine Kd.C_alloc ?_ _) | (with_reducible refine Kd.C_drewN ?_ _) | (with_reducible refine Kd.C_drew ?_))); (case side4 => exact (Kd.R_reads' HO_9.out).2.1); rintro e w80 ⟨v704, rfl, ho0, hb⟩; refine ⟨_, rfl, ?_⟩; have n0_ := Aside0.mk (Kd.R_below (by (with_reducible repeat (first | apply Kd.R_alloc | apply Kd.R_drewN | apply Kd.R_drew)); exact HO_7.out) hb); have n1_ := Aside0.mk (Kd.R_elder' (by (with_reducible repeat (first | apply Kd.R_alloc | apply Kd.R_drewN | apply Kd.R_drew)); exact HO_9.out) (Kd.R_base ho0) hb); have n2_ := Aside0.mk (Kd.R_elder' (by (with_reducible repeat (first | apply Kd.R_alloc | apply Kd.R_drewN | apply Kd.R_drew)); exact HO_11.out) (Kd.R_base ho0) hb); have n3_ := Aside0.mk (Kd.R_elder' (by (with_reducible repeat (first | apply Kd.R_alloc | apply Kd.R_drewN | apply Kd.R_drew)); exact HO701.out) (Kd.R_base ho0) hb); have n4_ := Aside0.mk (Kd.R_lower (Kd.R_new' (Kd.R_new' (Kd.R_new' ho0 (Kd.R_lt (by (with_reducible repeat (first | apply Kd.R_alloc | apply Kd.R_drewN | apply Kd.R_drew)); exact HO_9.out))) (Kd.R_lt (by (with_reducible repeat (first | apply Kd.R_alloc | apply Kd.R_drewN | apply Kd.R_drew)); exact HO_11.out))) (Kd.R_lt (by (with_reducible repeat (first | apply Kd.R_alloc | apply Kd.R_drewN | apply Kd.R_drew)); exact HO701.out))) (below_size (by repeat (first | (with_reducible first | exact HB.out | apply below_alloc | apply pw_below_drewN | apply below_drew1 | refine below_set ?_ GE651.out) | exact HB.out)))); have n5_ := Aside0.mk (blk_below (g := gb651) (o := .cells #[.int .i64 a2_0, .int .i64 a2_1, .int .i64 a2_2] 64 (0, 0)) (by (with_reducible repeat (first | refine blk_drewN ?_ _ | refine blk_drew ?_ | refine blk_alloc ?_ _)); exact BK651.out) hb); have n6_ := Aside0.mk (below_step (by repeat (first | (with_reducible first | exact HB.out | apply below_alloc | apply pw_below_drewN | apply below_drew1 | refine below_set ?_ GE651.out) | exact HB.out)) hb); clear HO_7; clear HO_9; clear HO_11; clear HO701; clear BK651; clear HB; have HO_7 := n0_; have HO_9 := n1_; have HO_11 := n2_; have HO701 := n3_; have HO705 := n4_; have BK651 := n5_; have HB := n6_; clear n0_ n1_ n2_ n3_ n4_ n5_ n6_; (try clear hb); (try clear hb2); (try clear hk); (try clear hi); (try clear ho0)))
        (try simp only [Act.put, List.setIfInBounds_toArray, List.set_cons_zero, List.set_cons_succ])
        go_cut [188] (fun v188 wc => ∃ (kq : Nat) (x188_76 : Bool), v188 = .bool x188_76 ∧ Aside0 (numnahlaw06_WettingGrows.j2 kq t652 t665 t702 t703 x188_76 = some r) ∧ Aside0 (kq ≤ kj51) ∧ Aside0 (Kd.R (Kd.int .i64) 3 wc w.heap.size (fun k_ => some k_ ≠ (v704 : Value).ownBlock) (.slice Ao78 t665.length co78) t665) ∧ Aside0 (Kd.R (Kd.int .i64) 3 wc w.heap.size (fun k_ => some k_ ≠ ((.slice Ao78 t665.length co78) : Value).ownBlock) v704 t702) ∧ Aside0 (wc.heap[gb651]? = some (.cells #[.int .i64 a2_0, .int .i64 a2_1, .int .i64 a2_2] 64 (0, 0))) ∧ Aside0 (Below w.heap.size w wc))
        case first =>
         have H := HC77.out
         clear HC77
         by_cases c81 : t699 = 0
         ·rw [if_pos c81] at H
          have c81b0 : (t699 == 0) = true := beq_iff_eq.mpr c81
          have c81b1 : (t699 != 0) = false := bne_eq_false_iff_eq.mpr c81
          clear c81
          (first | rw [c81b0] | (simp only [i64_w, i32_w]; rw [c81b0]) | skip)
          by_cases c82 : t698 = 0
          ·rw [if_pos c82] at H
           have c82b0 : (t698 == 0) = true := beq_iff_eq.mpr c82
           have c82b1 : (t698 != 0) = false := bne_eq_false_iff_eq.mpr c82
           clear c82
           replace H := Option.bind_eq_some_iff.mp H
           obtain ⟨t706, A830, H⟩ := H
           replace H : (if t706 = true then (numnahlaw06_WettingGrows.j2 kj51 t652 t665 t702 t703 ((t703 == 0) != (decide ((t665.length : Int) < t652)))) else (numnahlaw06_WettingGrows.j2 kj51 t652 t665 t702 t703 true)) = some r := H
           have A83 := Aside0.mk A830
           clear A830
           by_cases c84 : t706 = true
           ·subst c84
            have H1 : (numnahlaw06_WettingGrows.j2 kj51 t652 t665 t702 t703 ((t703 == 0) != (decide ((t665.length : Int) < t652)))) = some r := by rw [if_pos rfl] at H; exact H
            clear H
            have H := H1
            clear H1
            have H' := Aside0.mk H
            clear H
            obtain ⟨Ao85, co85, eo85⟩ := Kd.R_slice HO701.out
            subst eo85
            go_wp2_with (first | (go_at_call 24; (with_reducible refine (numnahlaw06_ints.calls kj51 _ _ t697 _ _ t665 true _ ?side1 ?side2 ?side3 ?side4 A83.out).mono ?_); (case side1 => repeat (first | exact (Kd.R_reads' HO701.out).2.2 | (with_reducible refine Kd.C_alloc ?_ _) | (with_reducible refine Kd.C_drewN ?_ _) | (with_reducible refine Kd.C_drew ?_))); (case side2 => exact (Kd.R_reads' HO701.out).2.1); (case side3 => repeat (first | exact (Kd.R_reads' HO_11.out).2.2 | (with_reducible refine Kd.C_alloc ?_ _) | (with_reducible refine Kd.C_drewN ?_ _) | (with_reducible refine Kd.C_drew ?_))); (case side4 => exact (Kd.R_reads' HO_11.out).2.1); rintro e w' ⟨rfl, ⟨nd, rfl⟩⟩))
            go_meet
            case rel => exact ⟨_, (((t703 == 0) != (decide ((t665.length : Int) < t652)))), (by first | rfl | (simp; done) | (simp [*]; done)), H', ⟨by have := HJ15.out; have := HJ51.out; first | omega | exact Nat.le_refl _⟩, ⟨by (with_reducible repeat (first | apply Kd.R_alloc | apply Kd.R_drewN | apply Kd.R_drew)); exact Kd.R_mono HO_11.out (fun _ hk => hk.2)⟩, ⟨by (with_reducible repeat (first | apply Kd.R_alloc | apply Kd.R_drewN | apply Kd.R_drew)); exact Kd.R_mono HO705.out (fun _ hk => hk.1.2)⟩, ⟨by (with_reducible repeat (first | refine blk_drewN ?_ _ | refine blk_drew ?_ | refine blk_alloc ?_ _)); exact BK651.out⟩, ⟨by repeat (first | (with_reducible first | exact HB.out | apply below_alloc | apply pw_below_drewN | apply below_drew1 | refine below_set ?_ GE651.out) | exact HB.out)⟩⟩
           ·replace c84 := Bool.eq_false_iff.mpr c84
            subst c84
            have H1 : (numnahlaw06_WettingGrows.j2 kj51 t652 t665 t702 t703 true) = some r := by rw [if_neg (show ¬ (false = true) by decide)] at H; exact H
            clear H
            have H := H1
            clear H1
            have H' := Aside0.mk H
            clear H
            obtain ⟨Ao86, co86, eo86⟩ := Kd.R_slice HO701.out
            subst eo86
            go_wp2_with (first | (go_at_call 24; (with_reducible refine (numnahlaw06_ints.calls kj51 _ _ t697 _ _ t665 false _ ?side1 ?side2 ?side3 ?side4 A83.out).mono ?_); (case side1 => repeat (first | exact (Kd.R_reads' HO701.out).2.2 | (with_reducible refine Kd.C_alloc ?_ _) | (with_reducible refine Kd.C_drewN ?_ _) | (with_reducible refine Kd.C_drew ?_))); (case side2 => exact (Kd.R_reads' HO701.out).2.1); (case side3 => repeat (first | exact (Kd.R_reads' HO_11.out).2.2 | (with_reducible refine Kd.C_alloc ?_ _) | (with_reducible refine Kd.C_drewN ?_ _) | (with_reducible refine Kd.C_drew ?_))); (case side4 => exact (Kd.R_reads' HO_11.out).2.1); rintro e w' ⟨rfl, ⟨nd, rfl⟩⟩))
            go_meet
            case rel => exact ⟨_, (true), (by first | rfl | (simp; done) | (simp [*]; done)), H', ⟨by have := HJ15.out; have := HJ51.out; first | omega | exact Nat.le_refl _⟩, ⟨by (with_reducible repeat (first | apply Kd.R_alloc | apply Kd.R_drewN | apply Kd.R_drew)); exact Kd.R_mono HO_11.out (fun _ hk => hk.2)⟩, ⟨by (with_reducible repeat (first | apply Kd.R_alloc | apply Kd.R_drewN | apply Kd.R_drew)); exact Kd.R_mono HO705.out (fun _ hk => hk.1.2)⟩, ⟨by (with_reducible repeat (first | refine blk_drewN ?_ _ | refine blk_drew ?_ | refine blk_alloc ?_ _)); exact BK651.out⟩, ⟨by repeat (first | (with_reducible first | exact HB.out | apply below_alloc | apply pw_below_drewN | apply below_drew1 | refine below_set ?_ GE651.out) | exact HB.out)⟩⟩
          ·rw [if_neg c82] at H
           have c82b0 : (t698 == 0) = false := beq_eq_false_iff_ne.mpr c82
           have c82b1 : (t698 != 0) = true := bne_iff_ne.mpr c82
           have H' := Aside0.mk H
           clear H
           go_wp2
           go_meet
           case rel => exact ⟨_, (true), (by first | rfl | (simp; done) | (simp [*]; done)), H', ⟨by have := HJ15.out; have := HJ51.out; first | omega | exact Nat.le_refl _⟩, ⟨by (with_reducible repeat (first | apply Kd.R_alloc | apply Kd.R_drewN | apply Kd.R_drew)); exact Kd.R_mono HO_11.out (fun _ hk => hk.2)⟩, ⟨by (with_reducible repeat (first | apply Kd.R_alloc | apply Kd.R_drewN | apply Kd.R_drew)); exact Kd.R_mono HO705.out (fun _ hk => hk.1.2)⟩, ⟨by (with_reducible repeat (first | refine blk_drewN ?_ _ | refine blk_drew ?_ | refine blk_alloc ?_ _)); exact BK651.out⟩, ⟨by repeat (first | (with_reducible first | exact HB.out | apply below_alloc | apply pw_below_drewN | apply below_drew1 | refine below_set ?_ GE651.out) | exact HB.out)⟩⟩
         ·rw [if_neg c81] at H
          have c81b0 : (t699 == 0) = false := beq_eq_false_iff_ne.mpr c81
          have c81b1 : (t699 != 0) = true := bne_iff_ne.mpr c81
          (first | rw [c81b0] | (simp only [i64_w, i32_w]; rw [c81b0]) | skip)
          have H' := Aside0.mk H
          clear H
          go_wp2
          go_meet
          case rel => exact ⟨_, (true), (by first | rfl | (simp; done) | (simp [*]; done)), H', ⟨by have := HJ15.out; have := HJ51.out; first | omega | exact Nat.le_refl _⟩, ⟨by (with_reducible repeat (first | apply Kd.R_alloc | apply Kd.R_drewN | apply Kd.R_drew)); exact Kd.R_mono HO_11.out (fun _ hk => hk.2)⟩, ⟨by (with_reducible repeat (first | apply Kd.R_alloc | apply Kd.R_drewN | apply Kd.R_drew)); exact Kd.R_mono HO705.out (fun _ hk => hk.1.2)⟩, ⟨by (with_reducible repeat (first | refine blk_drewN ?_ _ | refine blk_drew ?_ | refine blk_alloc ?_ _)); exact BK651.out⟩, ⟨by repeat (first | (with_reducible first | exact HB.out | apply below_alloc | apply pw_below_drewN | apply below_drew1 | refine below_set ?_ GE651.out) | exact HB.out)⟩⟩
        case rest => as_aux_lemma =>
         clear HC77
         try clear c1
         try clear c2
         try clear p2
         try clear c3
         try clear c4
         try clear c5
         try clear c6
         try clear p6
         try clear c7
         try clear c8
         try clear c9
         try clear c9b0
         try clear c9b1
         try clear c13
         try clear c25
         try clear c27
         try clear c28
         try clear c29
         try clear c30
         try clear c30b0
         try clear c30b1
         try clear c31
         try clear c31b0
         try clear c31b1
         try clear c32
         try clear c32b0
         try clear c32b1
         try clear c33
         try clear c33b0
         try clear c33b1
         try clear c35
         try clear c37
         try clear c39
         try clear c46
         try clear c48
         try clear c51
         try clear c55
         try clear c55b0
         try clear c55b1
         try clear c58
         try clear c58b0
         try clear c58b1
         try clear c61
         try clear c61b0
         try clear c61b1
         try clear p64
         try clear c74
         try clear c81
         try clear c81b0
         try clear c81b1
         try clear c82
         try clear c82b0
         try clear c82b1
         try clear c84
         try clear hcz19_0
         try clear hcz19_1
         try clear hcz19_2
         try clear hfz19_0
         try clear hfz19_1
         try clear hfz19_2
         try clear p2
         try clear p6
         try clear p64
         obtain ⟨kq, x188_76, rfl, HA, HJ76, HO_11, HO_26, BK651, HB⟩ := hcut
         cases kq with
         | zero => exact absurd HA.out (by simp [numnahlaw06_WettingGrows.j2])
         | succ kj76 =>
          have H := HA.out
          clear HA
          simp only [numnahlaw06_WettingGrows.j2] at H
          by_cases c87 : x188_76 = true
          ·subst c87
           have H1 : (some false) = some r := by rw [if_pos rfl] at H; exact H
           clear H
           have H := H1
           clear H1
           obtain rfl := Option.some.inj H
           go_wp2
           go_ret
           exact ⟨by first | rfl | (simp [errW_none, errW_some] <;> rfl) | (simp only [← hji10]; first | rfl | (simp [errW_none, errW_some] <;> rfl)) | (simp [*, errW_none, errW_some] <;> rfl), by repeat (first | (with_reducible first | exact HB.out | apply below_alloc | apply pw_below_drewN | apply below_drew1 | refine below_set ?_ GE651.out) | exact HB.out)⟩
          ·replace c87 := Bool.eq_false_iff.mpr c87
           subst c87
           have H1 : (if t703 = 0 then ((numnahlaw06_within.f kj76 t652 t702).bind fun t707 => (if t707 = true then ((numnahref06_Set.f kj76 t702).bind fun t708 => ((numnahref06_Set.f kj76 t665).bind fun t709 => (if 0 ≤ t652 then (if (wrap64 (t708 + t709)) = (wrap64 ((shl .i64 1 t652) - 1)) then ((numnahlaw06_awake.f).bind fun t710 => (some t710)) else (some false)) else (none)))) else (some false))) else ((numnahlaw06_awake.f).bind fun t711 => (some t711))) = some r := by rw [if_neg (show ¬ (false = true) by decide)] at H; exact H
           clear H
           have H := H1
           clear H1
           by_cases c88 : t703 = 0
           ·as_aux_lemma =>
            rw [if_pos c88] at H
            have c88b0 : (t703 == 0) = true := beq_iff_eq.mpr c88
            have c88b1 : (t703 != 0) = false := bne_eq_false_iff_eq.mpr c88
            clear c88
            replace H := Option.bind_eq_some_iff.mp H
            obtain ⟨t707, A890, H⟩ := H
            replace H : (if t707 = true then ((numnahref06_Set.f kj76 t702).bind fun t708 => ((numnahref06_Set.f kj76 t665).bind fun t709 => (if 0 ≤ t652 then (if (wrap64 (t708 + t709)) = (wrap64 ((shl .i64 1 t652) - 1)) then ((numnahlaw06_awake.f).bind fun t710 => (some t710)) else (some false)) else (none)))) else (some false)) = some r := H
            have A89 := Aside0.mk A890
            clear A890
            by_cases c90 : t707 = true
            ·subst c90
             have H1 : ((numnahref06_Set.f kj76 t702).bind fun t708 => ((numnahref06_Set.f kj76 t665).bind fun t709 => (if 0 ≤ t652 then (if (wrap64 (t708 + t709)) = (wrap64 ((shl .i64 1 t652) - 1)) then ((numnahlaw06_awake.f).bind fun t710 => (some t710)) else (some false)) else (none)))) = some r := by rw [if_pos rfl] at H; exact H
             clear H
             have H := H1
             clear H1
             replace H := Option.bind_eq_some_iff.mp H
             obtain ⟨t708, A910, H⟩ := H
             replace H : ((numnahref06_Set.f kj76 t665).bind fun t709 => (if 0 ≤ t652 then (if (wrap64 (t708 + t709)) = (wrap64 ((shl .i64 1 t652) - 1)) then ((numnahlaw06_awake.f).bind fun t710 => (some t710)) else (some false)) else (none))) = some r := H
             have A91 := Aside0.mk A910
             clear A910
             replace H := Option.bind_eq_some_iff.mp H
             obtain ⟨t709, A920, H⟩ := H
             replace H : (if 0 ≤ t652 then (if (wrap64 (t708 + t709)) = (wrap64 ((shl .i64 1 t652) - 1)) then ((numnahlaw06_awake.f).bind fun t710 => (some t710)) else (some false)) else (none)) = some r := H
             have A92 := Aside0.mk A920
             clear A920
             by_cases c93 : 0 ≤ t652
             ·as_aux_lemma =>
              rw [if_pos c93] at H
              have c93b0 := eq_true c93
              have c93b1 : decide (0 ≤ t652) = true := decide_eq_true c93
              clear c93
              obtain ⟨ji94, hji94⟩ : ∃ j_ : Int, (shl .i64 1 t652) = j_ := ⟨_, rfl⟩
              replace H : (if (wrap64 (t708 + t709)) = (wrap64 ((ji94) - 1)) then ((numnahlaw06_awake.f).bind fun t710 => (some t710)) else (some false)) = some r := by first | (rw [hji94] at H; exact H) | (simp only [hji94] at H ⊢; exact H)
              (try rw [hji94] at A89)
              (try rw [hji94] at A91)
              (try rw [hji94] at A92)
              have hji94_ : (IntKind.i64.wrap (1 * 2 ^ min t652.toNat 64)) = ji94 := hji94
              have hji94z : t652 ≤ 64 → (IntKind.i64.wrap (1 * 2 ^ t652.toNat)) = ji94 := shl_small hji94
              have hji94u : (IntKind.i64.wrap (2 ^ min t652.toNat 64)) = ji94 := by have h_ := hji94_; rw [Int.one_mul] at h_; exact h_
              have hji94v : t652 ≤ 64 → (IntKind.i64.wrap (2 ^ t652.toNat)) = ji94 := fun hle_ => by have h_ := hji94z hle_; rw [Int.one_mul] at h_; exact h_
              have hji94y : (wrap64 (1 * 2 ^ min t652.toNat 64)) = ji94 := (i64_w _).symm.trans hji94_
              have hji94x : t652 ≤ 64 → (wrap64 (1 * 2 ^ t652.toNat)) = ji94 := fun h_ => (i64_w _).symm.trans (hji94z h_)
              by_cases c95 : (wrap64 (t708 + t709)) = (wrap64 ((ji94) - 1))
              ·as_aux_lemma =>
               rw [if_pos c95] at H
               have c95b0 : ((wrap64 (t708 + t709)) == (wrap64 ((ji94) - 1))) = true := beq_iff_eq.mpr c95
               have c95b1 : ((wrap64 (t708 + t709)) != (wrap64 ((ji94) - 1))) = false := bne_eq_false_iff_eq.mpr c95
               clear c95
               replace H := Option.bind_eq_some_iff.mp H
               obtain ⟨t710, A960, H⟩ := H
               replace H : (some t710) = some r := H
               have A96 := Aside0.mk A960
               clear A960
               obtain rfl := Option.some.inj H
               try go_wp2
               have n0_ := Aside0.mk (Kd.R_drew HO_11.out)
               have n1_ := Aside0.mk (Kd.R_drew HO_26.out)
               have n2_ := Aside0.mk (blk_drew BK651.out)
               have n3_ := Aside0.mk (below_drew1 HB.out)
               clear HO_11
               clear HO_26
               clear BK651
               clear HB
               have HO_11 := n0_
               have HO_26 := n1_
               have BK651 := n2_
               have HB := n3_
               clear n0_ n1_ n2_ n3_
               obtain ⟨Ao98, co98, eo98⟩ := Kd.R_slice HO_26.out
               (first | subst eo98 | (injection eo98 with f1_ f2_ f3_; have f4_ := f1_.symm; have f5_ := f3_.symm; clear f1_ f2_ f3_; subst f4_; subst f5_))
               refine start_ (n := 22) (S := fun w' => True) (ds := []) #[false, false, false, false, false, false, false, false, false, false, false, false, false, false, false, false, false, false, false, false, false, false] (by kernel_rfl) rfl rfl trivial (fun hHeld => ?_); refine with_tabW numnahlaw06_WettingGrows.tab17 numnahlaw06_WettingGrows.bits17 (fun HT_ HW_ => ?_)
               generalize wc.drew = w97 at HO_11 HO_26 BK651 HB hHeld ⊢
               refine pure_ (i := 0) (N := some 189) (v := ?_) (a' := ?_) #[true, false, false, false, false, false, false, false, false, false, false, false, false, false, false, false, false, false, false, false, false, false] rfl rfl (any_of HT_.out (by kernel_rfl)) (fun _ _ _ h => h) (Or.inl ⟨by rfl, ?_⟩) ?_ ?_
               rotate_left
               ·intro w'
                go_simp
                with_reducible rfl
               rotate_left
               ·simp only [Act.put, List.setIfInBounds_toArray, List.set_cons_zero, List.set_cons_succ, i64_w, i32_w]
                rfl
               refine pure_ (i := 1) (N := some 190) (v := ?_) (a' := ?_) #[true, true, false, false, false, false, false, false, false, false, false, false, false, false, false, false, false, false, false, false, false, false] rfl rfl (any_of HT_.out (by kernel_rfl)) (fun _ _ _ h => h) (Or.inl ⟨by rfl, ?_⟩) ?_ ?_
               rotate_left
               ·intro w'
                go_simp
                with_reducible rfl
               rotate_left
               ·simp only [Act.put, List.setIfInBounds_toArray, List.set_cons_zero, List.set_cons_succ, i64_w, i32_w]
                rfl
               refine pure_ (i := 2) (N := some 191) (v := ?_) (a' := ?_) #[true, true, true, false, false, false, false, false, false, false, false, false, false, false, false, false, false, false, false, false, false, false] rfl rfl (any_of HT_.out (by kernel_rfl)) (fun _ _ _ h => h) (Or.inl ⟨by rfl, ?_⟩) ?_ ?_
               rotate_left
               ·intro w'
                go_simp
                with_reducible rfl
               rotate_left
               ·simp only [Act.put, List.setIfInBounds_toArray, List.set_cons_zero, List.set_cons_succ, i64_w, i32_w]
                rfl
               refine pure_ (i := 3) (N := some 192) (v := ?_) (a' := ?_) #[true, true, true, true, false, false, false, false, false, false, false, false, false, false, false, false, false, false, false, false, false, false] rfl rfl (any_of HT_.out (by kernel_rfl)) (fun _ _ _ h => h) (Or.inl ⟨by rfl, ?_⟩) ?_ ?_
               rotate_left
               ·intro w'
                go_simp
                with_reducible rfl
               rotate_left
               ·simp only [Act.put, List.setIfInBounds_toArray, List.set_cons_zero, List.set_cons_succ, i64_w, i32_w]
                rfl
               refine pure_ (i := 4) (N := some 193) (v := ?_) (a' := ?_) #[true, true, true, true, true, false, false, false, false, false, false, false, false, false, false, false, false, false, false, false, false, false] rfl rfl (any_of HT_.out (by kernel_rfl)) (fun _ _ _ h => h) (Or.inl ⟨by rfl, ?_⟩) ?_ ?_
               rotate_left
               ·intro w'
                go_simp
                with_reducible rfl
               rotate_left
               ·simp only [Act.put, List.setIfInBounds_toArray, List.set_cons_zero, List.set_cons_succ, i64_w, i32_w]
                rfl
               refine one_ (i := 5) (N := some 194) #[true, true, true, true, true, true, false, false, false, false, false, false, false, false, false, false, false, false, false, false, false, false] rfl rfl (one_of HT_.out (by kernel_rfl)) (by decide) (fun K hK => ?_)
               refine goes_ Tryd.func30 (by kernel_rfl) rfl #[.int .i64 t652, .slice Ao98 t702.length co98] (by rfl) rfl rfl (by (try simp only [List.map_toArray, List.map_cons, List.map_nil]); first | done | rfl | (simp only [List.length_drop, List.length_take]; rfl)) ?_
               with_reducible refine (numnahlaw06_within.calls kj76 t652 _ _ t702 true _ ?side1 ?side2 A89.out).mono ?_
               (case side1 => repeat (first | exact (Kd.R_reads' HO_26.out).2.2 | (with_reducible refine Kd.C_alloc ?_ _) | (with_reducible refine Kd.C_drewN ?_ _) | (with_reducible refine Kd.C_drew ?_)))
               (case side2 => exact (Kd.R_reads' HO_26.out).2.1)
               rintro e w' ⟨rfl, ⟨nd, rfl⟩⟩
               refine ⟨_, rfl, ?_⟩
               refine hK.out _ _ trivial (fun hHeld => ?_)
               clear hK K
               refine norm_ (a' := ?_) ?_ ?_
               rotate_left
               ·show Act.put _ (some 194) _ = _
                simp only [Act.put, List.setIfInBounds_toArray, List.set_cons_zero, List.set_cons_succ, i64_w, i32_w]
                rfl
               refine pure_ (i := 6) (N := some 195) (v := ?_) (a' := ?_) #[true, true, true, true, true, true, true, false, false, false, false, false, false, false, false, false, false, false, false, false, false, false] rfl rfl (any_of HT_.out (by kernel_rfl)) (fun _ _ _ h => h) (Or.inl ⟨by rfl, ?_⟩) ?_ ?_
               rotate_left
               ·intro w'
                go_simp
                with_reducible rfl
               rotate_left
               ·simp only [Act.put, List.setIfInBounds_toArray, List.set_cons_zero, List.set_cons_succ, i64_w, i32_w]
                rfl
               refine pure_ (i := 7) (N := some 196) (v := ?_) (a' := ?_) #[true, true, true, true, true, true, true, true, false, false, false, false, false, false, false, false, false, false, false, false, false, false] rfl rfl (any_of HT_.out (by kernel_rfl)) (fun _ _ _ h => h) (Or.inl ⟨by rfl, ?_⟩) ?_ ?_
               rotate_left
               ·intro w'
                go_simp
                with_reducible rfl
               rotate_left
               ·simp only [Act.put, List.setIfInBounds_toArray, List.set_cons_zero, List.set_cons_succ, i64_w, i32_w]
                rfl
               refine pure_ (i := 9) (N := some 198) (v := ?_) (a' := ?_) #[true, true, true, true, true, true, true, true, false, true, false, false, false, false, false, false, false, false, false, false, false, false] rfl rfl (any_of HT_.out (by kernel_rfl)) (fun _ _ _ h => h) (Or.inl ⟨by rfl, ?_⟩) ?_ ?_
               rotate_left
               ·intro w'
                go_simp
                with_reducible rfl
               rotate_left
               ·simp only [Act.put, List.setIfInBounds_toArray, List.set_cons_zero, List.set_cons_succ, i64_w, i32_w]
                rfl
               refine pure_ (i := 12) (N := some 201) (v := ?_) (a' := ?_) #[true, true, true, true, true, true, true, true, false, true, false, false, true, false, false, false, false, false, false, false, false, false] rfl rfl (any_of HT_.out (by kernel_rfl)) (fun _ _ _ h => h) (Or.inl ⟨by rfl, ?_⟩) ?_ ?_
               rotate_left
               ·intro w'
                go_simp
                with_reducible rfl
               rotate_left
               ·simp only [Act.put, List.setIfInBounds_toArray, List.set_cons_zero, List.set_cons_succ, i64_w, i32_w]
                rfl
               refine pure_ (i := 13) (N := some 202) (v := ?_) (a' := ?_) #[true, true, true, true, true, true, true, true, false, true, false, false, true, true, false, false, false, false, false, false, false, false] rfl rfl (any_of HT_.out (by kernel_rfl)) (fun _ _ _ h => h) (Or.inl ⟨by rfl, ?_⟩) ?_ ?_
               rotate_left
               ·intro w'
                go_simp
                with_reducible rfl
               rotate_left
               ·simp only [Act.put, List.setIfInBounds_toArray, List.set_cons_zero, List.set_cons_succ, i64_w, i32_w]
                rfl
               refine pure_ (i := 14) (N := some 203) (v := ?_) (a' := ?_) #[true, true, true, true, true, true, true, true, false, true, false, false, true, true, true, false, false, false, false, false, false, false] rfl rfl (any_of HT_.out (by kernel_rfl)) (fun _ _ _ h => h) (Or.inl ⟨by rfl, ?_⟩) ?_ ?_
               rotate_left
               ·intro w'
                go_simp
                with_reducible rfl
               rotate_left
               ·simp only [Act.put, List.setIfInBounds_toArray, List.set_cons_zero, List.set_cons_succ, i64_w, i32_w]
                rfl
               refine one_ (i := 8) (N := some 197) #[true, true, true, true, true, true, true, true, true, true, false, false, true, true, true, false, false, false, false, false, false, false] rfl rfl (one_of HT_.out (by kernel_rfl)) (by decide) (fun K hK => ?_)
               refine goes_ Tryd.func32 (by kernel_rfl) rfl #[.slice Ao98 t702.length co98] (by rfl) rfl rfl (by (try simp only [List.map_toArray, List.map_cons, List.map_nil]); first | done | rfl | (simp only [List.length_drop, List.length_take]; rfl)) ?_
               with_reducible refine (numnahref06_Set.calls kj76 _ _ t702 t708 _ ?side1 ?side2 A91.out).mono ?_
               (case side1 => repeat (first | exact (Kd.R_reads' HO_26.out).2.2 | (with_reducible refine Kd.C_alloc ?_ _) | (with_reducible refine Kd.C_drewN ?_ _) | (with_reducible refine Kd.C_drew ?_)))
               (case side2 => exact (Kd.R_reads' HO_26.out).2.1)
               rintro e w' ⟨rfl, ⟨nd, rfl⟩⟩
               refine ⟨_, rfl, ?_⟩
               refine hK.out _ _ trivial (fun hHeld => ?_)
               clear hK K
               refine norm_ (a' := ?_) ?_ ?_
               rotate_left
               ·show Act.put _ (some 197) _ = _
                simp only [Act.put, List.setIfInBounds_toArray, List.set_cons_zero, List.set_cons_succ, i64_w, i32_w]
                rfl
               refine one_ (i := 10) (N := some 199) #[true, true, true, true, true, true, true, true, true, true, true, false, true, true, true, false, false, false, false, false, false, false] rfl rfl (one_of HT_.out (by kernel_rfl)) (by decide) (fun K hK => ?_)
               refine goes_ Tryd.func32 (by kernel_rfl) rfl #[.slice Ao78 t665.length co78] (by rfl) rfl rfl (by (try simp only [List.map_toArray, List.map_cons, List.map_nil]); first | done | rfl | (simp only [List.length_drop, List.length_take]; rfl)) ?_
               with_reducible refine (numnahref06_Set.calls kj76 _ _ t665 t709 _ ?side1 ?side2 A92.out).mono ?_
               (case side1 => repeat (first | exact (Kd.R_reads' HO_11.out).2.2 | (with_reducible refine Kd.C_alloc ?_ _) | (with_reducible refine Kd.C_drewN ?_ _) | (with_reducible refine Kd.C_drew ?_)))
               (case side2 => exact (Kd.R_reads' HO_11.out).2.1)
               rintro e w' ⟨rfl, ⟨nd, rfl⟩⟩
               refine ⟨_, rfl, ?_⟩
               refine hK.out _ _ trivial (fun hHeld => ?_)
               clear hK K
               refine norm_ (a' := ?_) ?_ ?_
               rotate_left
               ·show Act.put _ (some 199) _ = _
                simp only [Act.put, List.setIfInBounds_toArray, List.set_cons_zero, List.set_cons_succ, i64_w, i32_w]
                rfl
               refine pure_ (i := 11) (N := some 200) (v := ?_) (a' := ?_) #[true, true, true, true, true, true, true, true, true, true, true, true, true, true, true, false, false, false, false, false, false, false] rfl rfl (any_of HT_.out (by kernel_rfl)) (fun _ _ _ h => h) (Or.inl ⟨by rfl, ?_⟩) ?_ ?_
               rotate_left
               ·intro w'
                go_simp
                with_reducible rfl
               rotate_left
               ·simp only [Act.put, List.setIfInBounds_toArray, List.set_cons_zero, List.set_cons_succ, i64_w, i32_w]
                rfl
               refine pure_ (i := 15) (N := some 204) (v := ?_) (a' := ?_) #[true, true, true, true, true, true, true, true, true, true, true, true, true, true, true, true, false, false, false, false, false, false] rfl rfl (any_of HT_.out (by kernel_rfl)) (fun _ _ _ h => h) (Or.inl ⟨by rfl, ?_⟩) ?_ ?_
               rotate_left
               ·intro w'
                go_simp
                with_reducible rfl
               rotate_left
               ·simp only [Act.put, List.setIfInBounds_toArray, List.set_cons_zero, List.set_cons_succ, i64_w, i32_w]
                rfl
               refine pure_ (i := 16) (N := some 205) (v := ?_) (a' := ?_) #[true, true, true, true, true, true, true, true, true, true, true, true, true, true, true, true, true, false, false, false, false, false] rfl rfl (any_of HT_.out (by kernel_rfl)) (fun _ _ _ h => h) (Or.inl ⟨by rfl, ?_⟩) ?_ ?_
               rotate_left
               ·intro w'
                go_simp
                with_reducible rfl
               rotate_left
               ·simp only [Act.put, List.setIfInBounds_toArray, List.set_cons_zero, List.set_cons_succ, i64_w, i32_w]
                rfl
               refine pure_ (i := 17) (N := some 206) (v := ?_) (a' := ?_) #[true, true, true, true, true, true, true, true, true, true, true, true, true, true, true, true, true, true, false, false, false, false] rfl rfl (any_of HT_.out (by kernel_rfl)) (fun _ _ _ h => h) (Or.inl ⟨by rfl, ?_⟩) ?_ ?_
               rotate_left
               ·intro w'
                go_simp
                with_reducible rfl
               rotate_left
               ·simp only [Act.put, List.setIfInBounds_toArray, List.set_cons_zero, List.set_cons_succ, i64_w, i32_w]
                rfl
               refine pure_ (i := 18) (N := some 207) (v := ?_) (a' := ?_) #[true, true, true, true, true, true, true, true, true, true, true, true, true, true, true, true, true, true, true, false, false, false] rfl rfl (any_of HT_.out (by kernel_rfl)) (fun _ _ _ h => h) (Or.inl ⟨by rfl, ?_⟩) ?_ ?_
               rotate_left
               ·intro w'
                go_simp
                with_reducible rfl
               rotate_left
               ·simp only [Act.put, List.setIfInBounds_toArray, List.set_cons_zero, List.set_cons_succ, i64_w, i32_w]
                rfl
               refine one_ (i := 19) (N := some 208) #[true, true, true, true, true, true, true, true, true, true, true, true, true, true, true, true, true, true, true, true, false, false] rfl rfl (one_of HT_.out (by kernel_rfl)) (by decide) (fun K hK => ?_)
               refine goes_ Tryd.func21 (by kernel_rfl) rfl #[] (by rfl) rfl rfl (by (try simp only [List.map_toArray, List.map_cons, List.map_nil]); first | done | rfl | (simp only [List.length_drop, List.length_take]; rfl)) ?_
               with_reducible refine (numnahlaw06_awake.calls  t710 _ A96.out ?sideT).mono ?_
               case sideT => exact tab_of (by repeat (first | (with_reducible first | exact HB.out | apply below_alloc | apply pw_below_drewN | apply below_drew1) | exact HB.out)) HT.out
               rintro e w99 ⟨rfl, hb⟩
               refine ⟨_, rfl, ?_⟩
               have n0_ := Aside0.mk (Kd.R_below (by (with_reducible repeat (first | apply Kd.R_alloc | apply Kd.R_drewN | apply Kd.R_drew)); exact HO_11.out) hb)
               have n1_ := Aside0.mk (Kd.R_below (by (with_reducible repeat (first | apply Kd.R_alloc | apply Kd.R_drewN | apply Kd.R_drew)); exact HO_26.out) hb)
               have n2_ := Aside0.mk (blk_below (g := gb651) (o := .cells #[.int .i64 a2_0, .int .i64 a2_1, .int .i64 a2_2] 64 (0, 0)) (by (with_reducible repeat (first | refine blk_drewN ?_ _ | refine blk_drew ?_ | refine blk_alloc ?_ _)); exact BK651.out) hb)
               have n3_ := Aside0.mk (below_step (by repeat (first | (with_reducible first | exact HB.out | apply below_alloc | apply pw_below_drewN | apply below_drew1 | refine below_set ?_ GE651.out) | exact HB.out)) hb)
               clear HO_11
               clear HO_26
               clear BK651
               clear HB
               have HO_11 := n0_
               have HO_26 := n1_
               have BK651 := n2_
               have HB := n3_
               clear n0_ n1_ n2_ n3_
               (try clear hb)
               (try clear hb2)
               (try clear hk)
               (try clear hi)
               refine hK.out _ _ trivial (fun hHeld => ?_)
               clear hK K
               refine norm_ (a' := ?_) ?_ ?_
               rotate_left
               ·show Act.put _ (some 208) _ = _
                simp only [Act.put, List.setIfInBounds_toArray, List.set_cons_zero, List.set_cons_succ, i64_w, i32_w]
                rfl
               refine pure_ (i := 20) (N := some 209) (v := ?_) (a' := ?_) #[true, true, true, true, true, true, true, true, true, true, true, true, true, true, true, true, true, true, true, true, true, false] rfl rfl (any_of HT_.out (by kernel_rfl)) (fun _ _ _ h => h) (Or.inl ⟨by rfl, ?_⟩) ?_ ?_
               rotate_left
               ·intro w'
                go_simp
                with_reducible rfl
               rotate_left
               ·simp only [Act.put, List.setIfInBounds_toArray, List.set_cons_zero, List.set_cons_succ, i64_w, i32_w]
                rfl
               refine pure_ (i := 21) (N := some 6) (v := ?_) (a' := ?_) #[true, true, true, true, true, true, true, true, true, true, true, true, true, true, true, true, true, true, true, true, true, true] rfl rfl (any_of HT_.out (by kernel_rfl)) (fun _ _ _ h => h) (Or.inl ⟨by rfl, ?_⟩) ?_ ?_
               rotate_left
               ·intro w'
                go_simp
                with_reducible rfl
               rotate_left
               ·simp only [Act.put, List.setIfInBounds_toArray, List.set_cons_zero, List.set_cons_succ, i64_w, i32_w]
                rfl
               refine done_ (done_of HT_.out (by kernel_rfl)) ?_
               try go_wp2
               go_ret
               exact ⟨by first | rfl | (simp [errW_none, errW_some] <;> rfl) | (simp only [← hji10, ← hji94]; first | rfl | (simp [errW_none, errW_some] <;> rfl)) | (simp [*, errW_none, errW_some] <;> rfl), by repeat (first | (with_reducible first | exact HB.out | apply below_alloc | apply pw_below_drewN | apply below_drew1 | refine below_set ?_ GE651.out) | exact HB.out)⟩
              ·as_aux_lemma =>
               rw [if_neg c95] at H
               have c95b0 : ((wrap64 (t708 + t709)) == (wrap64 ((ji94) - 1))) = false := beq_eq_false_iff_ne.mpr c95
               have c95b1 : ((wrap64 (t708 + t709)) != (wrap64 ((ji94) - 1))) = true := bne_iff_ne.mpr c95
               obtain rfl := Option.some.inj H
               try go_wp2
               have n0_ := Aside0.mk (Kd.R_drew HO_11.out)
               have n1_ := Aside0.mk (Kd.R_drew HO_26.out)
               have n2_ := Aside0.mk (blk_drew BK651.out)
               have n3_ := Aside0.mk (below_drew1 HB.out)
               clear HO_11
               clear HO_26
               clear BK651
               clear HB
               have HO_11 := n0_
               have HO_26 := n1_
               have BK651 := n2_
               have HB := n3_
               clear n0_ n1_ n2_ n3_
               obtain ⟨Ao101, co101, eo101⟩ := Kd.R_slice HO_26.out
               (first | subst eo101 | (injection eo101 with f1_ f2_ f3_; have f4_ := f1_.symm; have f5_ := f3_.symm; clear f1_ f2_ f3_; subst f4_; subst f5_))
               refine start_ (n := 22) (S := fun w' => True) (ds := []) #[false, false, false, false, false, false, false, false, false, false, false, false, false, false, false, false, false, false, false, false, false, false] (by kernel_rfl) rfl rfl trivial (fun hHeld => ?_); refine with_tabW numnahlaw06_WettingGrows.tab17 numnahlaw06_WettingGrows.bits17 (fun HT_ HW_ => ?_)
               generalize wc.drew = w100 at HO_11 HO_26 BK651 HB hHeld ⊢
               refine pure_ (i := 0) (N := some 189) (v := ?_) (a' := ?_) #[true, false, false, false, false, false, false, false, false, false, false, false, false, false, false, false, false, false, false, false, false, false] rfl rfl (any_of HT_.out (by kernel_rfl)) (fun _ _ _ h => h) (Or.inl ⟨by rfl, ?_⟩) ?_ ?_
               rotate_left
               ·intro w'
                go_simp
                with_reducible rfl
               rotate_left
               ·simp only [Act.put, List.setIfInBounds_toArray, List.set_cons_zero, List.set_cons_succ, i64_w, i32_w]
                rfl
               refine pure_ (i := 1) (N := some 190) (v := ?_) (a' := ?_) #[true, true, false, false, false, false, false, false, false, false, false, false, false, false, false, false, false, false, false, false, false, false] rfl rfl (any_of HT_.out (by kernel_rfl)) (fun _ _ _ h => h) (Or.inl ⟨by rfl, ?_⟩) ?_ ?_
               rotate_left
               ·intro w'
                go_simp
                with_reducible rfl
               rotate_left
               ·simp only [Act.put, List.setIfInBounds_toArray, List.set_cons_zero, List.set_cons_succ, i64_w, i32_w]
                rfl
               refine pure_ (i := 2) (N := some 191) (v := ?_) (a' := ?_) #[true, true, true, false, false, false, false, false, false, false, false, false, false, false, false, false, false, false, false, false, false, false] rfl rfl (any_of HT_.out (by kernel_rfl)) (fun _ _ _ h => h) (Or.inl ⟨by rfl, ?_⟩) ?_ ?_
               rotate_left
               ·intro w'
                go_simp
                with_reducible rfl
               rotate_left
               ·simp only [Act.put, List.setIfInBounds_toArray, List.set_cons_zero, List.set_cons_succ, i64_w, i32_w]
                rfl
               refine pure_ (i := 3) (N := some 192) (v := ?_) (a' := ?_) #[true, true, true, true, false, false, false, false, false, false, false, false, false, false, false, false, false, false, false, false, false, false] rfl rfl (any_of HT_.out (by kernel_rfl)) (fun _ _ _ h => h) (Or.inl ⟨by rfl, ?_⟩) ?_ ?_
               rotate_left
               ·intro w'
                go_simp
                with_reducible rfl
               rotate_left
               ·simp only [Act.put, List.setIfInBounds_toArray, List.set_cons_zero, List.set_cons_succ, i64_w, i32_w]
                rfl
               refine pure_ (i := 4) (N := some 193) (v := ?_) (a' := ?_) #[true, true, true, true, true, false, false, false, false, false, false, false, false, false, false, false, false, false, false, false, false, false] rfl rfl (any_of HT_.out (by kernel_rfl)) (fun _ _ _ h => h) (Or.inl ⟨by rfl, ?_⟩) ?_ ?_
               rotate_left
               ·intro w'
                go_simp
                with_reducible rfl
               rotate_left
               ·simp only [Act.put, List.setIfInBounds_toArray, List.set_cons_zero, List.set_cons_succ, i64_w, i32_w]
                rfl
               refine one_ (i := 5) (N := some 194) #[true, true, true, true, true, true, false, false, false, false, false, false, false, false, false, false, false, false, false, false, false, false] rfl rfl (one_of HT_.out (by kernel_rfl)) (by decide) (fun K hK => ?_)
               refine goes_ Tryd.func30 (by kernel_rfl) rfl #[.int .i64 t652, .slice Ao101 t702.length co101] (by rfl) rfl rfl (by (try simp only [List.map_toArray, List.map_cons, List.map_nil]); first | done | rfl | (simp only [List.length_drop, List.length_take]; rfl)) ?_
               with_reducible refine (numnahlaw06_within.calls kj76 t652 _ _ t702 true _ ?side1 ?side2 A89.out).mono ?_
               (case side1 => repeat (first | exact (Kd.R_reads' HO_26.out).2.2 | (with_reducible refine Kd.C_alloc ?_ _) | (with_reducible refine Kd.C_drewN ?_ _) | (with_reducible refine Kd.C_drew ?_)))
               (case side2 => exact (Kd.R_reads' HO_26.out).2.1)
               rintro e w' ⟨rfl, ⟨nd, rfl⟩⟩
               refine ⟨_, rfl, ?_⟩
               refine hK.out _ _ trivial (fun hHeld => ?_)
               clear hK K
               refine norm_ (a' := ?_) ?_ ?_
               rotate_left
               ·show Act.put _ (some 194) _ = _
                simp only [Act.put, List.setIfInBounds_toArray, List.set_cons_zero, List.set_cons_succ, i64_w, i32_w]
                rfl
               refine pure_ (i := 6) (N := some 195) (v := ?_) (a' := ?_) #[true, true, true, true, true, true, true, false, false, false, false, false, false, false, false, false, false, false, false, false, false, false] rfl rfl (any_of HT_.out (by kernel_rfl)) (fun _ _ _ h => h) (Or.inl ⟨by rfl, ?_⟩) ?_ ?_
               rotate_left
               ·intro w'
                go_simp
                with_reducible rfl
               rotate_left
               ·simp only [Act.put, List.setIfInBounds_toArray, List.set_cons_zero, List.set_cons_succ, i64_w, i32_w]
                rfl
               refine pure_ (i := 7) (N := some 196) (v := ?_) (a' := ?_) #[true, true, true, true, true, true, true, true, false, false, false, false, false, false, false, false, false, false, false, false, false, false] rfl rfl (any_of HT_.out (by kernel_rfl)) (fun _ _ _ h => h) (Or.inl ⟨by rfl, ?_⟩) ?_ ?_
               rotate_left
               ·intro w'
                go_simp
                with_reducible rfl
               rotate_left
               ·simp only [Act.put, List.setIfInBounds_toArray, List.set_cons_zero, List.set_cons_succ, i64_w, i32_w]
                rfl
               refine pure_ (i := 9) (N := some 198) (v := ?_) (a' := ?_) #[true, true, true, true, true, true, true, true, false, true, false, false, false, false, false, false, false, false, false, false, false, false] rfl rfl (any_of HT_.out (by kernel_rfl)) (fun _ _ _ h => h) (Or.inl ⟨by rfl, ?_⟩) ?_ ?_
               rotate_left
               ·intro w'
                go_simp
                with_reducible rfl
               rotate_left
               ·simp only [Act.put, List.setIfInBounds_toArray, List.set_cons_zero, List.set_cons_succ, i64_w, i32_w]
                rfl
               refine pure_ (i := 12) (N := some 201) (v := ?_) (a' := ?_) #[true, true, true, true, true, true, true, true, false, true, false, false, true, false, false, false, false, false, false, false, false, false] rfl rfl (any_of HT_.out (by kernel_rfl)) (fun _ _ _ h => h) (Or.inl ⟨by rfl, ?_⟩) ?_ ?_
               rotate_left
               ·intro w'
                go_simp
                with_reducible rfl
               rotate_left
               ·simp only [Act.put, List.setIfInBounds_toArray, List.set_cons_zero, List.set_cons_succ, i64_w, i32_w]
                rfl
               refine pure_ (i := 13) (N := some 202) (v := ?_) (a' := ?_) #[true, true, true, true, true, true, true, true, false, true, false, false, true, true, false, false, false, false, false, false, false, false] rfl rfl (any_of HT_.out (by kernel_rfl)) (fun _ _ _ h => h) (Or.inl ⟨by rfl, ?_⟩) ?_ ?_
               rotate_left
               ·intro w'
                go_simp
                with_reducible rfl
               rotate_left
               ·simp only [Act.put, List.setIfInBounds_toArray, List.set_cons_zero, List.set_cons_succ, i64_w, i32_w]
                rfl
               refine pure_ (i := 14) (N := some 203) (v := ?_) (a' := ?_) #[true, true, true, true, true, true, true, true, false, true, false, false, true, true, true, false, false, false, false, false, false, false] rfl rfl (any_of HT_.out (by kernel_rfl)) (fun _ _ _ h => h) (Or.inl ⟨by rfl, ?_⟩) ?_ ?_
               rotate_left
               ·intro w'
                go_simp
                with_reducible rfl
               rotate_left
               ·simp only [Act.put, List.setIfInBounds_toArray, List.set_cons_zero, List.set_cons_succ, i64_w, i32_w]
                rfl
               refine one_ (i := 8) (N := some 197) #[true, true, true, true, true, true, true, true, true, true, false, false, true, true, true, false, false, false, false, false, false, false] rfl rfl (one_of HT_.out (by kernel_rfl)) (by decide) (fun K hK => ?_)
               refine goes_ Tryd.func32 (by kernel_rfl) rfl #[.slice Ao101 t702.length co101] (by rfl) rfl rfl (by (try simp only [List.map_toArray, List.map_cons, List.map_nil]); first | done | rfl | (simp only [List.length_drop, List.length_take]; rfl)) ?_
               with_reducible refine (numnahref06_Set.calls kj76 _ _ t702 t708 _ ?side1 ?side2 A91.out).mono ?_
               (case side1 => repeat (first | exact (Kd.R_reads' HO_26.out).2.2 | (with_reducible refine Kd.C_alloc ?_ _) | (with_reducible refine Kd.C_drewN ?_ _) | (with_reducible refine Kd.C_drew ?_)))
               (case side2 => exact (Kd.R_reads' HO_26.out).2.1)
               rintro e w' ⟨rfl, ⟨nd, rfl⟩⟩
               refine ⟨_, rfl, ?_⟩
               refine hK.out _ _ trivial (fun hHeld => ?_)
               clear hK K
               refine norm_ (a' := ?_) ?_ ?_
               rotate_left
               ·show Act.put _ (some 197) _ = _
                simp only [Act.put, List.setIfInBounds_toArray, List.set_cons_zero, List.set_cons_succ, i64_w, i32_w]
                rfl
               refine one_ (i := 10) (N := some 199) #[true, true, true, true, true, true, true, true, true, true, true, false, true, true, true, false, false, false, false, false, false, false] rfl rfl (one_of HT_.out (by kernel_rfl)) (by decide) (fun K hK => ?_)
               refine goes_ Tryd.func32 (by kernel_rfl) rfl #[.slice Ao78 t665.length co78] (by rfl) rfl rfl (by (try simp only [List.map_toArray, List.map_cons, List.map_nil]); first | done | rfl | (simp only [List.length_drop, List.length_take]; rfl)) ?_
               with_reducible refine (numnahref06_Set.calls kj76 _ _ t665 t709 _ ?side1 ?side2 A92.out).mono ?_
               (case side1 => repeat (first | exact (Kd.R_reads' HO_11.out).2.2 | (with_reducible refine Kd.C_alloc ?_ _) | (with_reducible refine Kd.C_drewN ?_ _) | (with_reducible refine Kd.C_drew ?_)))
               (case side2 => exact (Kd.R_reads' HO_11.out).2.1)
               rintro e w' ⟨rfl, ⟨nd, rfl⟩⟩
               refine ⟨_, rfl, ?_⟩
               refine hK.out _ _ trivial (fun hHeld => ?_)
               clear hK K
               refine norm_ (a' := ?_) ?_ ?_
               rotate_left
               ·show Act.put _ (some 199) _ = _
                simp only [Act.put, List.setIfInBounds_toArray, List.set_cons_zero, List.set_cons_succ, i64_w, i32_w]
                rfl
               refine pure_ (i := 11) (N := some 200) (v := ?_) (a' := ?_) #[true, true, true, true, true, true, true, true, true, true, true, true, true, true, true, false, false, false, false, false, false, false] rfl rfl (any_of HT_.out (by kernel_rfl)) (fun _ _ _ h => h) (Or.inl ⟨by rfl, ?_⟩) ?_ ?_
               rotate_left
               ·intro w'
                go_simp
                with_reducible rfl
               rotate_left
               ·simp only [Act.put, List.setIfInBounds_toArray, List.set_cons_zero, List.set_cons_succ, i64_w, i32_w]
                rfl
               refine pure_ (i := 15) (N := some 204) (v := ?_) (a' := ?_) #[true, true, true, true, true, true, true, true, true, true, true, true, true, true, true, true, false, false, false, false, false, false] rfl rfl (any_of HT_.out (by kernel_rfl)) (fun _ _ _ h => h) (Or.inl ⟨by rfl, ?_⟩) ?_ ?_
               rotate_left
               ·intro w'
                go_simp
                with_reducible rfl
               rotate_left
               ·simp only [Act.put, List.setIfInBounds_toArray, List.set_cons_zero, List.set_cons_succ, i64_w, i32_w]
                rfl
               refine pure_ (i := 16) (N := some 205) (v := ?_) (a' := ?_) #[true, true, true, true, true, true, true, true, true, true, true, true, true, true, true, true, true, false, false, false, false, false] rfl rfl (any_of HT_.out (by kernel_rfl)) (fun _ _ _ h => h) (Or.inl ⟨by rfl, ?_⟩) ?_ ?_
               rotate_left
               ·intro w'
                go_simp
                with_reducible rfl
               rotate_left
               ·simp only [Act.put, List.setIfInBounds_toArray, List.set_cons_zero, List.set_cons_succ, i64_w, i32_w]
                rfl
               refine pure_ (i := 17) (N := some 206) (v := ?_) (a' := ?_) #[true, true, true, true, true, true, true, true, true, true, true, true, true, true, true, true, true, true, false, false, false, false] rfl rfl (any_of HT_.out (by kernel_rfl)) (fun _ _ _ h => h) (Or.inl ⟨by rfl, ?_⟩) ?_ ?_
               rotate_left
               ·intro w'
                go_simp
                with_reducible rfl
               rotate_left
               ·simp only [Act.put, List.setIfInBounds_toArray, List.set_cons_zero, List.set_cons_succ, i64_w, i32_w]
                rfl
               refine pure_ (i := 18) (N := some 207) (v := ?_) (a' := ?_) #[true, true, true, true, true, true, true, true, true, true, true, true, true, true, true, true, true, true, true, false, false, false] rfl rfl (any_of HT_.out (by kernel_rfl)) (fun _ _ _ h => h) (Or.inl ⟨by rfl, ?_⟩) ?_ ?_
               rotate_left
               ·intro w'
                go_simp
                with_reducible rfl
               rotate_left
               ·simp only [Act.put, List.setIfInBounds_toArray, List.set_cons_zero, List.set_cons_succ, i64_w, i32_w]
                rfl
               refine pure_ (i := 19) (N := some 208) (v := undef) (a' := ?_) #[true, true, true, true, true, true, true, true, true, true, true, true, true, true, true, true, true, true, true, true, false, false] rfl rfl (any_of HT_.out (by kernel_rfl)) (fun _ _ _ h => h) (Or.inr ⟨by rfl, rfl⟩) ?_ ?_
               rotate_left
               ·simp only [Act.put, List.setIfInBounds_toArray, List.set_cons_zero, List.set_cons_succ, i64_w, i32_w]
                rfl
               refine pure_ (i := 20) (N := some 209) (v := ?_) (a' := ?_) #[true, true, true, true, true, true, true, true, true, true, true, true, true, true, true, true, true, true, true, true, true, false] rfl rfl (any_of HT_.out (by kernel_rfl)) (fun _ _ _ h => h) (Or.inl ⟨by rfl, ?_⟩) ?_ ?_
               rotate_left
               ·intro w'
                go_simp
                with_reducible rfl
               rotate_left
               ·simp only [Act.put, List.setIfInBounds_toArray, List.set_cons_zero, List.set_cons_succ, i64_w, i32_w]
                rfl
               refine pure_ (i := 21) (N := some 6) (v := ?_) (a' := ?_) #[true, true, true, true, true, true, true, true, true, true, true, true, true, true, true, true, true, true, true, true, true, true] rfl rfl (any_of HT_.out (by kernel_rfl)) (fun _ _ _ h => h) (Or.inl ⟨by rfl, ?_⟩) ?_ ?_
               rotate_left
               ·intro w'
                go_simp
                with_reducible rfl
               rotate_left
               ·simp only [Act.put, List.setIfInBounds_toArray, List.set_cons_zero, List.set_cons_succ, i64_w, i32_w]
                rfl
               refine done_ (done_of HT_.out (by kernel_rfl)) ?_
               try go_wp2
               go_ret
               exact ⟨by first | rfl | (simp [errW_none, errW_some] <;> rfl) | (simp only [← hji10, ← hji94]; first | rfl | (simp [errW_none, errW_some] <;> rfl)) | (simp [*, errW_none, errW_some] <;> rfl), by repeat (first | (with_reducible first | exact HB.out | apply below_alloc | apply pw_below_drewN | apply below_drew1 | refine below_set ?_ GE651.out) | exact HB.out)⟩
             ·as_aux_lemma =>
              rw [if_neg c93] at H
              exact absurd H (by simp)
            ·replace c90 := Bool.eq_false_iff.mpr c90
             subst c90
             have H1 : (some false) = some r := by rw [if_neg (show ¬ (false = true) by decide)] at H; exact H
             clear H
             have H := H1
             clear H1
             obtain rfl := Option.some.inj H
             try go_wp2
             have n0_ := Aside0.mk (Kd.R_drew HO_11.out)
             have n1_ := Aside0.mk (Kd.R_drew HO_26.out)
             have n2_ := Aside0.mk (blk_drew BK651.out)
             have n3_ := Aside0.mk (below_drew1 HB.out)
             clear HO_11
             clear HO_26
             clear BK651
             clear HB
             have HO_11 := n0_
             have HO_26 := n1_
             have BK651 := n2_
             have HB := n3_
             clear n0_ n1_ n2_ n3_
             obtain ⟨Ao103, co103, eo103⟩ := Kd.R_slice HO_26.out
             (first | subst eo103 | (injection eo103 with f1_ f2_ f3_; have f4_ := f1_.symm; have f5_ := f3_.symm; clear f1_ f2_ f3_; subst f4_; subst f5_))
             refine start_ (n := 22) (S := fun w' => True) (ds := []) #[false, false, false, false, false, false, false, false, false, false, false, false, false, false, false, false, false, false, false, false, false, false] (by kernel_rfl) rfl rfl trivial (fun hHeld => ?_); refine with_tabW numnahlaw06_WettingGrows.tab17 numnahlaw06_WettingGrows.bits17 (fun HT_ HW_ => ?_)
             generalize wc.drew = w102 at HO_11 HO_26 BK651 HB hHeld ⊢
             refine pure_ (i := 0) (N := some 189) (v := ?_) (a' := ?_) #[true, false, false, false, false, false, false, false, false, false, false, false, false, false, false, false, false, false, false, false, false, false] rfl rfl (any_of HT_.out (by kernel_rfl)) (fun _ _ _ h => h) (Or.inl ⟨by rfl, ?_⟩) ?_ ?_
             rotate_left
             ·intro w'
              go_simp
              with_reducible rfl
             rotate_left
             ·simp only [Act.put, List.setIfInBounds_toArray, List.set_cons_zero, List.set_cons_succ, i64_w, i32_w]
              rfl
             refine pure_ (i := 1) (N := some 190) (v := ?_) (a' := ?_) #[true, true, false, false, false, false, false, false, false, false, false, false, false, false, false, false, false, false, false, false, false, false] rfl rfl (any_of HT_.out (by kernel_rfl)) (fun _ _ _ h => h) (Or.inl ⟨by rfl, ?_⟩) ?_ ?_
             rotate_left
             ·intro w'
              go_simp
              with_reducible rfl
             rotate_left
             ·simp only [Act.put, List.setIfInBounds_toArray, List.set_cons_zero, List.set_cons_succ, i64_w, i32_w]
              rfl
             refine pure_ (i := 2) (N := some 191) (v := ?_) (a' := ?_) #[true, true, true, false, false, false, false, false, false, false, false, false, false, false, false, false, false, false, false, false, false, false] rfl rfl (any_of HT_.out (by kernel_rfl)) (fun _ _ _ h => h) (Or.inl ⟨by rfl, ?_⟩) ?_ ?_
             rotate_left
             ·intro w'
              go_simp
              with_reducible rfl
             rotate_left
             ·simp only [Act.put, List.setIfInBounds_toArray, List.set_cons_zero, List.set_cons_succ, i64_w, i32_w]
              rfl
             refine pure_ (i := 3) (N := some 192) (v := ?_) (a' := ?_) #[true, true, true, true, false, false, false, false, false, false, false, false, false, false, false, false, false, false, false, false, false, false] rfl rfl (any_of HT_.out (by kernel_rfl)) (fun _ _ _ h => h) (Or.inl ⟨by rfl, ?_⟩) ?_ ?_
             rotate_left
             ·intro w'
              go_simp
              with_reducible rfl
             rotate_left
             ·simp only [Act.put, List.setIfInBounds_toArray, List.set_cons_zero, List.set_cons_succ, i64_w, i32_w]
              rfl
             refine pure_ (i := 4) (N := some 193) (v := ?_) (a' := ?_) #[true, true, true, true, true, false, false, false, false, false, false, false, false, false, false, false, false, false, false, false, false, false] rfl rfl (any_of HT_.out (by kernel_rfl)) (fun _ _ _ h => h) (Or.inl ⟨by rfl, ?_⟩) ?_ ?_
             rotate_left
             ·intro w'
              go_simp
              with_reducible rfl
             rotate_left
             ·simp only [Act.put, List.setIfInBounds_toArray, List.set_cons_zero, List.set_cons_succ, i64_w, i32_w]
              rfl
             refine one_ (i := 5) (N := some 194) #[true, true, true, true, true, true, false, false, false, false, false, false, false, false, false, false, false, false, false, false, false, false] rfl rfl (one_of HT_.out (by kernel_rfl)) (by decide) (fun K hK => ?_)
             refine goes_ Tryd.func30 (by kernel_rfl) rfl #[.int .i64 t652, .slice Ao103 t702.length co103] (by rfl) rfl rfl (by (try simp only [List.map_toArray, List.map_cons, List.map_nil]); first | done | rfl | (simp only [List.length_drop, List.length_take]; rfl)) ?_
             with_reducible refine (numnahlaw06_within.calls kj76 t652 _ _ t702 false _ ?side1 ?side2 A89.out).mono ?_
             (case side1 => repeat (first | exact (Kd.R_reads' HO_26.out).2.2 | (with_reducible refine Kd.C_alloc ?_ _) | (with_reducible refine Kd.C_drewN ?_ _) | (with_reducible refine Kd.C_drew ?_)))
             (case side2 => exact (Kd.R_reads' HO_26.out).2.1)
             rintro e w' ⟨rfl, ⟨nd, rfl⟩⟩
             refine ⟨_, rfl, ?_⟩
             refine hK.out _ _ trivial (fun hHeld => ?_)
             clear hK K
             refine norm_ (a' := ?_) ?_ ?_
             rotate_left
             ·show Act.put _ (some 194) _ = _
              simp only [Act.put, List.setIfInBounds_toArray, List.set_cons_zero, List.set_cons_succ, i64_w, i32_w]
              rfl
             refine pure_ (i := 6) (N := some 195) (v := ?_) (a' := ?_) #[true, true, true, true, true, true, true, false, false, false, false, false, false, false, false, false, false, false, false, false, false, false] rfl rfl (any_of HT_.out (by kernel_rfl)) (fun _ _ _ h => h) (Or.inl ⟨by rfl, ?_⟩) ?_ ?_
             rotate_left
             ·intro w'
              go_simp
              with_reducible rfl
             rotate_left
             ·simp only [Act.put, List.setIfInBounds_toArray, List.set_cons_zero, List.set_cons_succ, i64_w, i32_w]
              rfl
             refine pure_ (i := 7) (N := some 196) (v := undef) (a' := ?_) #[true, true, true, true, true, true, true, true, false, false, false, false, false, false, false, false, false, false, false, false, false, false] rfl rfl (any_of HT_.out (by kernel_rfl)) (fun _ _ _ h => h) (Or.inr ⟨by rfl, rfl⟩) ?_ ?_
             rotate_left
             ·simp only [Act.put, List.setIfInBounds_toArray, List.set_cons_zero, List.set_cons_succ, i64_w, i32_w]
              rfl
             refine pure_ (i := 8) (N := some 197) (v := undef) (a' := ?_) #[true, true, true, true, true, true, true, true, true, false, false, false, false, false, false, false, false, false, false, false, false, false] rfl rfl (any_of HT_.out (by kernel_rfl)) (fun _ _ _ h => h) (Or.inr ⟨by rfl, rfl⟩) ?_ ?_
             rotate_left
             ·simp only [Act.put, List.setIfInBounds_toArray, List.set_cons_zero, List.set_cons_succ, i64_w, i32_w]
              rfl
             refine pure_ (i := 9) (N := some 198) (v := undef) (a' := ?_) #[true, true, true, true, true, true, true, true, true, true, false, false, false, false, false, false, false, false, false, false, false, false] rfl rfl (any_of HT_.out (by kernel_rfl)) (fun _ _ _ h => h) (Or.inr ⟨by rfl, rfl⟩) ?_ ?_
             rotate_left
             ·simp only [Act.put, List.setIfInBounds_toArray, List.set_cons_zero, List.set_cons_succ, i64_w, i32_w]
              rfl
             refine pure_ (i := 10) (N := some 199) (v := undef) (a' := ?_) #[true, true, true, true, true, true, true, true, true, true, true, false, false, false, false, false, false, false, false, false, false, false] rfl rfl (any_of HT_.out (by kernel_rfl)) (fun _ _ _ h => h) (Or.inr ⟨by rfl, rfl⟩) ?_ ?_
             rotate_left
             ·simp only [Act.put, List.setIfInBounds_toArray, List.set_cons_zero, List.set_cons_succ, i64_w, i32_w]
              rfl
             refine pure_ (i := 11) (N := some 200) (v := undef) (a' := ?_) #[true, true, true, true, true, true, true, true, true, true, true, true, false, false, false, false, false, false, false, false, false, false] rfl rfl (any_of HT_.out (by kernel_rfl)) (fun _ _ _ h => h) (Or.inr ⟨by rfl, rfl⟩) ?_ ?_
             rotate_left
             ·simp only [Act.put, List.setIfInBounds_toArray, List.set_cons_zero, List.set_cons_succ, i64_w, i32_w]
              rfl
             refine pure_ (i := 12) (N := some 201) (v := undef) (a' := ?_) #[true, true, true, true, true, true, true, true, true, true, true, true, true, false, false, false, false, false, false, false, false, false] rfl rfl (any_of HT_.out (by kernel_rfl)) (fun _ _ _ h => h) (Or.inr ⟨by rfl, rfl⟩) ?_ ?_
             rotate_left
             ·simp only [Act.put, List.setIfInBounds_toArray, List.set_cons_zero, List.set_cons_succ, i64_w, i32_w]
              rfl
             refine pure_ (i := 13) (N := some 202) (v := undef) (a' := ?_) #[true, true, true, true, true, true, true, true, true, true, true, true, true, true, false, false, false, false, false, false, false, false] rfl rfl (any_of HT_.out (by kernel_rfl)) (fun _ _ _ h => h) (Or.inr ⟨by rfl, rfl⟩) ?_ ?_
             rotate_left
             ·simp only [Act.put, List.setIfInBounds_toArray, List.set_cons_zero, List.set_cons_succ, i64_w, i32_w]
              rfl
             refine pure_ (i := 14) (N := some 203) (v := undef) (a' := ?_) #[true, true, true, true, true, true, true, true, true, true, true, true, true, true, true, false, false, false, false, false, false, false] rfl rfl (any_of HT_.out (by kernel_rfl)) (fun _ _ _ h => h) (Or.inr ⟨by rfl, rfl⟩) ?_ ?_
             rotate_left
             ·simp only [Act.put, List.setIfInBounds_toArray, List.set_cons_zero, List.set_cons_succ, i64_w, i32_w]
              rfl
             refine pure_ (i := 15) (N := some 204) (v := undef) (a' := ?_) #[true, true, true, true, true, true, true, true, true, true, true, true, true, true, true, true, false, false, false, false, false, false] rfl rfl (any_of HT_.out (by kernel_rfl)) (fun _ _ _ h => h) (Or.inr ⟨by rfl, rfl⟩) ?_ ?_
             rotate_left
             ·simp only [Act.put, List.setIfInBounds_toArray, List.set_cons_zero, List.set_cons_succ, i64_w, i32_w]
              rfl
             refine pure_ (i := 16) (N := some 205) (v := ?_) (a' := ?_) #[true, true, true, true, true, true, true, true, true, true, true, true, true, true, true, true, true, false, false, false, false, false] rfl rfl (any_of HT_.out (by kernel_rfl)) (fun _ _ _ h => h) (Or.inl ⟨by rfl, ?_⟩) ?_ ?_
             rotate_left
             ·intro w'
              go_simp
              with_reducible rfl
             rotate_left
             ·simp only [Act.put, List.setIfInBounds_toArray, List.set_cons_zero, List.set_cons_succ, i64_w, i32_w]
              rfl
             refine pure_ (i := 17) (N := some 206) (v := ?_) (a' := ?_) #[true, true, true, true, true, true, true, true, true, true, true, true, true, true, true, true, true, true, false, false, false, false] rfl rfl (any_of HT_.out (by kernel_rfl)) (fun _ _ _ h => h) (Or.inl ⟨by rfl, ?_⟩) ?_ ?_
             rotate_left
             ·intro w'
              go_simp
              with_reducible rfl
             rotate_left
             ·simp only [Act.put, List.setIfInBounds_toArray, List.set_cons_zero, List.set_cons_succ, i64_w, i32_w]
              rfl
             refine pure_ (i := 18) (N := some 207) (v := ?_) (a' := ?_) #[true, true, true, true, true, true, true, true, true, true, true, true, true, true, true, true, true, true, true, false, false, false] rfl rfl (any_of HT_.out (by kernel_rfl)) (fun _ _ _ h => h) (Or.inl ⟨by rfl, ?_⟩) ?_ ?_
             rotate_left
             ·intro w'
              go_simp
              with_reducible rfl
             rotate_left
             ·simp only [Act.put, List.setIfInBounds_toArray, List.set_cons_zero, List.set_cons_succ, i64_w, i32_w]
              rfl
             refine pure_ (i := 19) (N := some 208) (v := undef) (a' := ?_) #[true, true, true, true, true, true, true, true, true, true, true, true, true, true, true, true, true, true, true, true, false, false] rfl rfl (any_of HT_.out (by kernel_rfl)) (fun _ _ _ h => h) (Or.inr ⟨by rfl, rfl⟩) ?_ ?_
             rotate_left
             ·simp only [Act.put, List.setIfInBounds_toArray, List.set_cons_zero, List.set_cons_succ, i64_w, i32_w]
              rfl
             refine pure_ (i := 20) (N := some 209) (v := ?_) (a' := ?_) #[true, true, true, true, true, true, true, true, true, true, true, true, true, true, true, true, true, true, true, true, true, false] rfl rfl (any_of HT_.out (by kernel_rfl)) (fun _ _ _ h => h) (Or.inl ⟨by rfl, ?_⟩) ?_ ?_
             rotate_left
             ·intro w'
              go_simp
              with_reducible rfl
             rotate_left
             ·simp only [Act.put, List.setIfInBounds_toArray, List.set_cons_zero, List.set_cons_succ, i64_w, i32_w]
              rfl
             refine pure_ (i := 21) (N := some 6) (v := ?_) (a' := ?_) #[true, true, true, true, true, true, true, true, true, true, true, true, true, true, true, true, true, true, true, true, true, true] rfl rfl (any_of HT_.out (by kernel_rfl)) (fun _ _ _ h => h) (Or.inl ⟨by rfl, ?_⟩) ?_ ?_
             rotate_left
             ·intro w'
              go_simp
              with_reducible rfl
             rotate_left
             ·simp only [Act.put, List.setIfInBounds_toArray, List.set_cons_zero, List.set_cons_succ, i64_w, i32_w]
              rfl
             refine done_ (done_of HT_.out (by kernel_rfl)) ?_
             try go_wp2
             go_ret
             exact ⟨by first | rfl | (simp [errW_none, errW_some] <;> rfl) | (simp only [← hji10]; first | rfl | (simp [errW_none, errW_some] <;> rfl)) | (simp [*, errW_none, errW_some] <;> rfl), by repeat (first | (with_reducible first | exact HB.out | apply below_alloc | apply pw_below_drewN | apply below_drew1 | refine below_set ?_ GE651.out) | exact HB.out)⟩
           ·as_aux_lemma =>
            rw [if_neg c88] at H
            have c88b0 : (t703 == 0) = false := beq_eq_false_iff_ne.mpr c88
            have c88b1 : (t703 != 0) = true := bne_iff_ne.mpr c88
            replace H := Option.bind_eq_some_iff.mp H
            obtain ⟨t711, A1040, H⟩ := H
            replace H : (some t711) = some r := H
            have A104 := Aside0.mk A1040
            clear A1040
            obtain rfl := Option.some.inj H
            try go_wp2
            have n0_ := Aside0.mk (Kd.R_drew HO_11.out)
            have n1_ := Aside0.mk (Kd.R_drew HO_26.out)
            have n2_ := Aside0.mk (blk_drew BK651.out)
            have n3_ := Aside0.mk (below_drew1 HB.out)
            clear HO_11
            clear HO_26
            clear BK651
            clear HB
            have HO_11 := n0_
            have HO_26 := n1_
            have BK651 := n2_
            have HB := n3_
            clear n0_ n1_ n2_ n3_
            refine start_ (n := 22) (S := fun w' => True) (ds := []) #[false, false, false, false, false, false, false, false, false, false, false, false, false, false, false, false, false, false, false, false, false, false] (by kernel_rfl) rfl rfl trivial (fun hHeld => ?_); refine with_tabW numnahlaw06_WettingGrows.tab17 numnahlaw06_WettingGrows.bits17 (fun HT_ HW_ => ?_)
            generalize wc.drew = w105 at HO_11 HO_26 BK651 HB hHeld ⊢
            refine pure_ (i := 0) (N := some 189) (v := ?_) (a' := ?_) #[true, false, false, false, false, false, false, false, false, false, false, false, false, false, false, false, false, false, false, false, false, false] rfl rfl (any_of HT_.out (by kernel_rfl)) (fun _ _ _ h => h) (Or.inl ⟨by rfl, ?_⟩) ?_ ?_
            rotate_left
            ·intro w'
             go_simp
             with_reducible rfl
            rotate_left
            ·simp only [Act.put, List.setIfInBounds_toArray, List.set_cons_zero, List.set_cons_succ, i64_w, i32_w]
             rfl
            refine pure_ (i := 1) (N := some 190) (v := ?_) (a' := ?_) #[true, true, false, false, false, false, false, false, false, false, false, false, false, false, false, false, false, false, false, false, false, false] rfl rfl (any_of HT_.out (by kernel_rfl)) (fun _ _ _ h => h) (Or.inl ⟨by rfl, ?_⟩) ?_ ?_
            rotate_left
            ·intro w'
             go_simp
             with_reducible rfl
            rotate_left
            ·simp only [Act.put, List.setIfInBounds_toArray, List.set_cons_zero, List.set_cons_succ, i64_w, i32_w]
             rfl
            refine pure_ (i := 2) (N := some 191) (v := ?_) (a' := ?_) #[true, true, true, false, false, false, false, false, false, false, false, false, false, false, false, false, false, false, false, false, false, false] rfl rfl (any_of HT_.out (by kernel_rfl)) (fun _ _ _ h => h) (Or.inl ⟨by rfl, ?_⟩) ?_ ?_
            rotate_left
            ·intro w'
             go_simp
             with_reducible rfl
            rotate_left
            ·simp only [Act.put, List.setIfInBounds_toArray, List.set_cons_zero, List.set_cons_succ, i64_w, i32_w]
             rfl
            refine pure_ (i := 3) (N := some 192) (v := undef) (a' := ?_) #[true, true, true, true, false, false, false, false, false, false, false, false, false, false, false, false, false, false, false, false, false, false] rfl rfl (any_of HT_.out (by kernel_rfl)) (fun _ _ _ h => h) (Or.inr ⟨by rfl, rfl⟩) ?_ ?_
            rotate_left
            ·simp only [Act.put, List.setIfInBounds_toArray, List.set_cons_zero, List.set_cons_succ, i64_w, i32_w]
             rfl
            refine pure_ (i := 4) (N := some 193) (v := undef) (a' := ?_) #[true, true, true, true, true, false, false, false, false, false, false, false, false, false, false, false, false, false, false, false, false, false] rfl rfl (any_of HT_.out (by kernel_rfl)) (fun _ _ _ h => h) (Or.inr ⟨by rfl, rfl⟩) ?_ ?_
            rotate_left
            ·simp only [Act.put, List.setIfInBounds_toArray, List.set_cons_zero, List.set_cons_succ, i64_w, i32_w]
             rfl
            refine pure_ (i := 5) (N := some 194) (v := undef) (a' := ?_) #[true, true, true, true, true, true, false, false, false, false, false, false, false, false, false, false, false, false, false, false, false, false] rfl rfl (any_of HT_.out (by kernel_rfl)) (fun _ _ _ h => h) (Or.inr ⟨by rfl, rfl⟩) ?_ ?_
            rotate_left
            ·simp only [Act.put, List.setIfInBounds_toArray, List.set_cons_zero, List.set_cons_succ, i64_w, i32_w]
             rfl
            refine pure_ (i := 6) (N := some 195) (v := undef) (a' := ?_) #[true, true, true, true, true, true, true, false, false, false, false, false, false, false, false, false, false, false, false, false, false, false] rfl rfl (any_of HT_.out (by kernel_rfl)) (fun _ _ _ h => h) (Or.inr ⟨by rfl, rfl⟩) ?_ ?_
            rotate_left
            ·simp only [Act.put, List.setIfInBounds_toArray, List.set_cons_zero, List.set_cons_succ, i64_w, i32_w]
             rfl
            refine pure_ (i := 7) (N := some 196) (v := undef) (a' := ?_) #[true, true, true, true, true, true, true, true, false, false, false, false, false, false, false, false, false, false, false, false, false, false] rfl rfl (any_of HT_.out (by kernel_rfl)) (fun _ _ _ h => h) (Or.inr ⟨by rfl, rfl⟩) ?_ ?_
            rotate_left
            ·simp only [Act.put, List.setIfInBounds_toArray, List.set_cons_zero, List.set_cons_succ, i64_w, i32_w]
             rfl
            refine pure_ (i := 8) (N := some 197) (v := undef) (a' := ?_) #[true, true, true, true, true, true, true, true, true, false, false, false, false, false, false, false, false, false, false, false, false, false] rfl rfl (any_of HT_.out (by kernel_rfl)) (fun _ _ _ h => h) (Or.inr ⟨by rfl, rfl⟩) ?_ ?_
            rotate_left
            ·simp only [Act.put, List.setIfInBounds_toArray, List.set_cons_zero, List.set_cons_succ, i64_w, i32_w]
             rfl
            refine pure_ (i := 9) (N := some 198) (v := undef) (a' := ?_) #[true, true, true, true, true, true, true, true, true, true, false, false, false, false, false, false, false, false, false, false, false, false] rfl rfl (any_of HT_.out (by kernel_rfl)) (fun _ _ _ h => h) (Or.inr ⟨by rfl, rfl⟩) ?_ ?_
            rotate_left
            ·simp only [Act.put, List.setIfInBounds_toArray, List.set_cons_zero, List.set_cons_succ, i64_w, i32_w]
             rfl
            refine pure_ (i := 10) (N := some 199) (v := undef) (a' := ?_) #[true, true, true, true, true, true, true, true, true, true, true, false, false, false, false, false, false, false, false, false, false, false] rfl rfl (any_of HT_.out (by kernel_rfl)) (fun _ _ _ h => h) (Or.inr ⟨by rfl, rfl⟩) ?_ ?_
            rotate_left
            ·simp only [Act.put, List.setIfInBounds_toArray, List.set_cons_zero, List.set_cons_succ, i64_w, i32_w]
             rfl
            refine pure_ (i := 11) (N := some 200) (v := undef) (a' := ?_) #[true, true, true, true, true, true, true, true, true, true, true, true, false, false, false, false, false, false, false, false, false, false] rfl rfl (any_of HT_.out (by kernel_rfl)) (fun _ _ _ h => h) (Or.inr ⟨by rfl, rfl⟩) ?_ ?_
            rotate_left
            ·simp only [Act.put, List.setIfInBounds_toArray, List.set_cons_zero, List.set_cons_succ, i64_w, i32_w]
             rfl
            refine pure_ (i := 12) (N := some 201) (v := undef) (a' := ?_) #[true, true, true, true, true, true, true, true, true, true, true, true, true, false, false, false, false, false, false, false, false, false] rfl rfl (any_of HT_.out (by kernel_rfl)) (fun _ _ _ h => h) (Or.inr ⟨by rfl, rfl⟩) ?_ ?_
            rotate_left
            ·simp only [Act.put, List.setIfInBounds_toArray, List.set_cons_zero, List.set_cons_succ, i64_w, i32_w]
             rfl
            refine pure_ (i := 13) (N := some 202) (v := undef) (a' := ?_) #[true, true, true, true, true, true, true, true, true, true, true, true, true, true, false, false, false, false, false, false, false, false] rfl rfl (any_of HT_.out (by kernel_rfl)) (fun _ _ _ h => h) (Or.inr ⟨by rfl, rfl⟩) ?_ ?_
            rotate_left
            ·simp only [Act.put, List.setIfInBounds_toArray, List.set_cons_zero, List.set_cons_succ, i64_w, i32_w]
             rfl
            refine pure_ (i := 14) (N := some 203) (v := undef) (a' := ?_) #[true, true, true, true, true, true, true, true, true, true, true, true, true, true, true, false, false, false, false, false, false, false] rfl rfl (any_of HT_.out (by kernel_rfl)) (fun _ _ _ h => h) (Or.inr ⟨by rfl, rfl⟩) ?_ ?_
            rotate_left
            ·simp only [Act.put, List.setIfInBounds_toArray, List.set_cons_zero, List.set_cons_succ, i64_w, i32_w]
             rfl
            refine pure_ (i := 15) (N := some 204) (v := undef) (a' := ?_) #[true, true, true, true, true, true, true, true, true, true, true, true, true, true, true, true, false, false, false, false, false, false] rfl rfl (any_of HT_.out (by kernel_rfl)) (fun _ _ _ h => h) (Or.inr ⟨by rfl, rfl⟩) ?_ ?_
            rotate_left
            ·simp only [Act.put, List.setIfInBounds_toArray, List.set_cons_zero, List.set_cons_succ, i64_w, i32_w]
             rfl
            refine pure_ (i := 16) (N := some 205) (v := undef) (a' := ?_) #[true, true, true, true, true, true, true, true, true, true, true, true, true, true, true, true, true, false, false, false, false, false] rfl rfl (any_of HT_.out (by kernel_rfl)) (fun _ _ _ h => h) (Or.inr ⟨by rfl, rfl⟩) ?_ ?_
            rotate_left
            ·simp only [Act.put, List.setIfInBounds_toArray, List.set_cons_zero, List.set_cons_succ, i64_w, i32_w]
             rfl
            refine pure_ (i := 17) (N := some 206) (v := ?_) (a' := ?_) #[true, true, true, true, true, true, true, true, true, true, true, true, true, true, true, true, true, true, false, false, false, false] rfl rfl (any_of HT_.out (by kernel_rfl)) (fun _ _ _ h => h) (Or.inl ⟨by rfl, ?_⟩) ?_ ?_
            rotate_left
            ·intro w'
             go_simp
             with_reducible rfl
            rotate_left
            ·simp only [Act.put, List.setIfInBounds_toArray, List.set_cons_zero, List.set_cons_succ, i64_w, i32_w]
             rfl
            refine pure_ (i := 18) (N := some 207) (v := ?_) (a' := ?_) #[true, true, true, true, true, true, true, true, true, true, true, true, true, true, true, true, true, true, true, false, false, false] rfl rfl (any_of HT_.out (by kernel_rfl)) (fun _ _ _ h => h) (Or.inl ⟨by rfl, ?_⟩) ?_ ?_
            rotate_left
            ·intro w'
             go_simp
             with_reducible rfl
            rotate_left
            ·simp only [Act.put, List.setIfInBounds_toArray, List.set_cons_zero, List.set_cons_succ, i64_w, i32_w]
             rfl
            refine one_ (i := 19) (N := some 208) #[true, true, true, true, true, true, true, true, true, true, true, true, true, true, true, true, true, true, true, true, false, false] rfl rfl (one_of HT_.out (by kernel_rfl)) (by decide) (fun K hK => ?_)
            refine goes_ Tryd.func21 (by kernel_rfl) rfl #[] (by rfl) rfl rfl (by (try simp only [List.map_toArray, List.map_cons, List.map_nil]); first | done | rfl | (simp only [List.length_drop, List.length_take]; rfl)) ?_
            with_reducible refine (numnahlaw06_awake.calls  t711 _ A104.out ?sideT).mono ?_
            case sideT => exact tab_of (by repeat (first | (with_reducible first | exact HB.out | apply below_alloc | apply pw_below_drewN | apply below_drew1) | exact HB.out)) HT.out
            rintro e w106 ⟨rfl, hb⟩
            refine ⟨_, rfl, ?_⟩
            have n0_ := Aside0.mk (Kd.R_below (by (with_reducible repeat (first | apply Kd.R_alloc | apply Kd.R_drewN | apply Kd.R_drew)); exact HO_11.out) hb)
            have n1_ := Aside0.mk (Kd.R_below (by (with_reducible repeat (first | apply Kd.R_alloc | apply Kd.R_drewN | apply Kd.R_drew)); exact HO_26.out) hb)
            have n2_ := Aside0.mk (blk_below (g := gb651) (o := .cells #[.int .i64 a2_0, .int .i64 a2_1, .int .i64 a2_2] 64 (0, 0)) (by (with_reducible repeat (first | refine blk_drewN ?_ _ | refine blk_drew ?_ | refine blk_alloc ?_ _)); exact BK651.out) hb)
            have n3_ := Aside0.mk (below_step (by repeat (first | (with_reducible first | exact HB.out | apply below_alloc | apply pw_below_drewN | apply below_drew1 | refine below_set ?_ GE651.out) | exact HB.out)) hb)
            clear HO_11
            clear HO_26
            clear BK651
            clear HB
            have HO_11 := n0_
            have HO_26 := n1_
            have BK651 := n2_
            have HB := n3_
            clear n0_ n1_ n2_ n3_
            (try clear hb)
            (try clear hb2)
            (try clear hk)
            (try clear hi)
            refine hK.out _ _ trivial (fun hHeld => ?_)
            clear hK K
            refine norm_ (a' := ?_) ?_ ?_
            rotate_left
            ·show Act.put _ (some 208) _ = _
             simp only [Act.put, List.setIfInBounds_toArray, List.set_cons_zero, List.set_cons_succ, i64_w, i32_w]
             rfl
            refine pure_ (i := 20) (N := some 209) (v := ?_) (a' := ?_) #[true, true, true, true, true, true, true, true, true, true, true, true, true, true, true, true, true, true, true, true, true, false] rfl rfl (any_of HT_.out (by kernel_rfl)) (fun _ _ _ h => h) (Or.inl ⟨by rfl, ?_⟩) ?_ ?_
            rotate_left
            ·intro w'
             go_simp
             with_reducible rfl
            rotate_left
            ·simp only [Act.put, List.setIfInBounds_toArray, List.set_cons_zero, List.set_cons_succ, i64_w, i32_w]
             rfl
            refine pure_ (i := 21) (N := some 6) (v := ?_) (a' := ?_) #[true, true, true, true, true, true, true, true, true, true, true, true, true, true, true, true, true, true, true, true, true, true] rfl rfl (any_of HT_.out (by kernel_rfl)) (fun _ _ _ h => h) (Or.inl ⟨by rfl, ?_⟩) ?_ ?_
            rotate_left
            ·intro w'
             go_simp
             with_reducible rfl
            rotate_left
            ·simp only [Act.put, List.setIfInBounds_toArray, List.set_cons_zero, List.set_cons_succ, i64_w, i32_w]
             rfl
            refine done_ (done_of HT_.out (by kernel_rfl)) ?_
            try go_wp2
            go_ret
            exact ⟨by first | rfl | (simp [errW_none, errW_some] <;> rfl) | (simp only [← hji10]; first | rfl | (simp [errW_none, errW_some] <;> rfl)) | (simp [*, errW_none, errW_some] <;> rfl), by repeat (first | (with_reducible first | exact HB.out | apply below_alloc | apply pw_below_drewN | apply below_drew1 | refine below_set ?_ GE651.out) | exact HB.out)⟩
 ·rw [if_neg c9] at H
  exact absurd H (by simp)

end Go.Proofs.YtpbeaaihdmfnlaaDoor.G

/- ### LGrows -/
/- The law of growing, in plain words. -/
namespace Go.Proofs.YtpbeaaihdmfnlaaDoor.P
open Go Go.RowKit Go.Proofs.YtpbeaaihdmfnlaaDoor.M Go.Proofs.YtpbeaaihdmfnlaaDoor.H Go.Proofs.YtpbeaaihdmfnlaaDoor.G
open Go.Proofs.YtpbeaaihdmfnlaaDoorW.PrintWords Go.Proofs.YtpbeaaihdmfnlaaDoorW.PrintMore

theorem ints_bits {n t : Nat} {l : List S48} (h : Tamed n l) (ht : t < 2 ^ n) : Ev (fun k => numnahlaw06_ints.f k (natsI (bitsOf t)) (natsI (bitsOf t))) true := by
  have := ev_ints (a := natsI (bitsOf t)) (b := natsI (bitsOf t)) (by rw [natsI_length]; have := card_lt64 (h.small ht); show card _ < _; omega)
  rwa [decide_eq_true rfl] at this
theorem grows_j1 {n s c : Nat} {out : List S48} (h : Tamed n out) (hs : s < 2 ^ n) (hc : cl (forcedM (nearOf out)) n s = c) : Ev (fun k => numnahlaw06_WettingGrows.j1 k (n : Int) out (natsI (bitsOf s)) (natsI (bitsOf c)) false) true := by
  have hle := h.g.le
  have h64 : n ≤ 64 := by omega
  have g := good_forced h.g.lt
  have hcn : c < 2 ^ n := by rw [← hc]; exact cl_lt g hs
  have hcl : forcedM (nearOf out) c = 0 := by rw [← hc]; exact cl_closed g hs
  have e1 : cl (forcedM (nearOf out)) n c = c := by
    have := cl_of_closed (n := n) hcl
    unfold cl; rw [this]
  have e2 : max 0 (maxL (L n (closeR (forcedM (nearOf out)) n c).2)) = 0 := by
    rw [most_rounds h.g.pos h64 g]
    have : countM (forcedM (nearOf out)) (2 ^ n) c = 0 := by
      cases 2 ^ n with
      | zero => rfl
      | succ m => unfold countM; rw [if_pos hcl]
    rw [this]; rfl
  have hf := h.fort hs
  rw [hc] at hf
  have hcc := h.close hcn
  rw [e1, e2] at hcc
  refine Ev.step (f := fun k => (numnahlaw06_ints.f k (natsI (bitsOf c)) (natsI (bitsOf c))).bind fun t706 => (if t706 = true then (numnahlaw06_WettingGrows.j2 k (n : Int) (natsI (bitsOf c)) (natsI (if c = full n then [] else bitsOf (andNot (full n) c))) (if c = full n then 6 else 0) (((if c = full n then 6 else 0 : Int) == 0) != (decide (((natsI (bitsOf c)).length : Int) < (n : Int))))) else (numnahlaw06_WettingGrows.j2 k (n : Int) (natsI (bitsOf c)) (natsI (if c = full n then [] else bitsOf (andNot (full n) c))) (if c = full n then 6 else 0) true))) (fun k => ?_) ?_
  · simp only [numnahlaw06_WettingGrows.j1]
    rw [hcc, hf]
    rfl
  refine Ev.bind (ints_bits h hcn) ?_
  refine Ev.congr (fun k => if_pos rfl) ?_
  have hal : ((natsI (bitsOf c)).length : Int) = (card c : Int) := by rw [natsI_length]; rfl
  by_cases hfull : c = full n
  · have hca : card c = n := (card_eq_full hcn h64).2 hfull
    simp only [if_pos hfull]
    have hbe : (((6 : Int) == 0) != decide (((natsI (bitsOf c)).length : Int) < (n : Int))) = false := by rw [hal, hca]; simp
    rw [hbe]
    refine Ev.step (f := fun _ => (numnahlaw06_awake.f).bind fun t711 => (some t711)) (fun k => ?_) ev_awake
    simp only [numnahlaw06_WettingGrows.j2]
    rfl
  · have hca : card c < n := by
      have := card_le hcn h64
      have : card c ≠ n := fun e => hfull ((card_eq_full hcn h64).1 e)
      omega
    simp only [if_neg hfull]
    have hbe : (((0 : Int) == 0) != decide (((natsI (bitsOf c)).length : Int) < (n : Int))) = false := by
      rw [hal, decide_eq_true (show ((card c : Nat) : Int) < (n : Int) by omega)]; rfl
    rw [hbe]
    have hx : andNot (full n) c < 2 ^ n := andNot_lt (full_lt n n (Nat.le_refl n))
    have hsum := full_sub hle hcn
    have hfl := full_lt n n (Nat.le_refl n)
    have hp := p12 hle
    have hpow : 0 < 2 ^ n := Nat.two_pow_pos n
    have hfe : full n + 1 = 2 ^ n := by unfold full; omega
    refine Ev.step (f := fun k => (numnahlaw06_within.f k (n : Int) (natsI (bitsOf (andNot (full n) c)))).bind fun t707 => (if t707 = true then ((numnahref06_Set.f k (natsI (bitsOf (andNot (full n) c)))).bind fun t708 => ((numnahref06_Set.f k (natsI (bitsOf c))).bind fun t709 => (if (wrap64 (t708 + t709)) = ((full n : Nat) : Int) then ((numnahlaw06_awake.f).bind fun t710 => (some t710)) else (some false)))) else (some false))) (fun k => ?_) ?_
    · simp only [numnahlaw06_WettingGrows.j2]
      rw [shl_i (by omega), show wrap64 (((2 ^ n : Nat) : Int) - 1) = ((full n : Nat) : Int) by unfold wrap64; omega]
      simp only [show ((0 : Int) ≤ (n : Int)) = True from eq_true (by omega), if_true]
      rfl
    · refine Ev.bind (h.within hx) ?_
      refine Ev.congr (fun k => if_pos rfl) ?_
      refine Ev.bind (h.set hx) ?_
      refine Ev.bind (h.set hcn) ?_
      exact Ev.congr (fun k => if_pos (by unfold wrap64; omega)) ev_awake
theorem grows_j0 {n s c d e g : Nat} {out : List S48} (h : Tamed n out) (hs : s < 2 ^ n) (hc : cl (forcedM (nearOf out)) n s = c) (hd : d < 2 ^ n) (he : e < 2 ^ n) (hg : g < 2 ^ n) (s1 : Sub s c) (s2 : Sub c d) (s3 : Sub s e) (s4 : Sub e g) :
    Ev (fun k => numnahlaw06_WettingGrows.j0 k (n : Int) out (natsI (bitsOf s)) (natsI (bitsOf c)) (natsI (bitsOf d)) (natsI (bitsOf e)) (natsI (bitsOf g)) false) true := by
  have hcn : c < 2 ^ n := by rw [← hc]; exact cl_lt (good_forced h.g.lt) hs
  refine Ev.step (fun k => by simp only [numnahlaw06_WettingGrows.j0]; rw [if_neg (by simp)]) ?_
  refine Ev.bind (h.set hs) ?_
  refine Ev.bind (h.set hcn) ?_
  refine Ev.congr (fun k => if_pos (by rw [andN (h.small hs), andNot_zero.2 s1]; rfl)) ?_
  refine Ev.bind (h.set hcn) ?_
  refine Ev.bind (h.set hd) ?_
  refine Ev.congr (fun k => if_pos (by rw [andN (h.small hcn), andNot_zero.2 s2]; rfl)) ?_
  refine Ev.bind (h.set hs) ?_
  refine Ev.bind (h.set he) ?_
  refine Ev.congr (fun k => if_pos (by rw [andN (h.small hs), andNot_zero.2 s3]; rfl)) ?_
  refine Ev.bind (h.set he) ?_
  refine Ev.bind (h.set hg) ?_
  refine Ev.congr (fun k => by rw [andN (h.small he), andNot_zero.2 s4]) ?_
  exact grows_j1 h hs hc
theorem grows_pure (a0 : Int) (_ : inI a0) (l : List S48) (hl : fitL l) (a2 : Int) (_ : inI a2) (b2 : Int) (_ : inI b2) (c2 : Int) (_ : inI c2) : ∃ k, numnahlaw06_WettingGrows.f k a0 l a2 b2 c2 = some true := by
  obtain ⟨n, out, h, hv⟩ := tame_ex a0 hl
  obtain ⟨s, hs, hse⟩ := ev_some h.g.le a2
  have hle := h.g.le
  have hpos := h.g.pos
  obtain ⟨q, eq, hq⟩ := mod_f c2 (n := 6) (by decide) (by decide)
  have eq' : numnahlaw06_mod.f c2 6 = some (q : Int) := eq
  obtain ⟨v, ev, hv'⟩ := mod_f b2 (n := n) (by omega) (by omega)
  have h64 : n ≤ 64 := by omega
  have w1 : wrap64 (1 + (q : Int)) = ((q + 1 : Nat) : Int) := by unfold wrap64; omega
  obtain ⟨r, hr⟩ : ∃ r : Int, ((q + 1 : Nat) : Int) = r := ⟨_, rfl⟩
  have hr16 : 1 ≤ r ∧ r ≤ 6 := by omega
  have hvp : 2 ^ v < 2 ^ n := Nat.pow_lt_pow_right (by omega) hv'
  have ht : s ||| 2 ^ v < 2 ^ n := Nat.or_lt_two_pow hs hvp
  refine Ev.rounds ?_
  simp only [numnahlaw06_WettingGrows.f]
  refine Ev.bind hv ?_
  simp only [eq', ev, Option.bind_some, w1, hr]
  refine Ev.bind hse ?_
  refine Ev.bind (h.set hs) ?_
  refine Ev.congr (fun k => if_pos (by omega)) ?_
  rw [shl_i (by omega), orI (h.small hs) (h.small hvp)]
  refine Ev.bind (ev_list (h.small ht)) ?_
  simp only [h.close hs, h.close ht, h.soak hs hr16, h.soak ht hr16, Option.bind_some, if_true]
  have gs := good_soaked (n := n) (near := nearOf out) (r := r) h64
  have gf := good_forced h.g.lt
  have hst : Sub s (s ||| 2 ^ v) := sub_or_left _ _
  refine Ev.bind (h.within (cl_lt gf hs)) ?_
  refine Ev.congr (fun k => if_pos rfl) ?_
  refine Ev.bind (h.within (cl_lt gf ht)) ?_
  refine Ev.congr (fun k => if_pos rfl) ?_
  refine Ev.bind (h.within (cl_lt gs hs)) ?_
  refine Ev.congr (fun k => if_pos rfl) ?_
  refine Ev.bind (h.within (cl_lt gs ht)) ?_
  exact grows_j0 h hs rfl (cl_lt gf ht) (cl_lt gs hs) (cl_lt gs ht) cl_sub (close_mono hle h.g.lt hs ht hst) cl_sub (soak_mono h64 (Int.le_refl r) ht hst)
end Go.Proofs.YtpbeaaihdmfnlaaDoor.P
