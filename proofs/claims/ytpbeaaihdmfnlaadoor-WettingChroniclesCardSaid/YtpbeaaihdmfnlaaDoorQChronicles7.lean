/- Several texts, joined. -/
import Derived.Test.YtpbeaaihdmfnlaaDoorQChronicles6

/- ### Gx25 -/
namespace Go.Proofs.YtpbeaaihdmfnlaaDoor.G
open Go.RowKit Go.Proofs.YtpbeaaihdmfnlaaDoor.H Go.Proofs.YtpbeaaihdmfnlaaDoorW.PrintWords Go.Proofs.YtpbeaaihdmfnlaaDoorW.PrintLast Go.Proofs.YtpbeaaihdmfnlaaDoorW.PrintMore
attribute [local go_sem] max2_int min2_int max_two min_two max_three min_three max_four min_four   -- for this text's walks alone
set_option linter.unusedVariables false
set_option linter.unusedSimpArgs false
mutual
def numnahlaw06_WettingChronicles.j0 : Nat → List Int → List (List Int) → Int → List Int → Int → Bool → Option (Bool)
  | 0, _, _, _, _, _, _ => none
  | k + 1, x8, x11, x12, x15, x16, x119 => if x119 = true then (some false) else ((numnahref06_All.f x15).bind fun t847 => (if x16 = t847 then ((numnahref06_Set.f k x8).bind fun t849 => ((numnahref06_Chains.f k x15 t849).bind fun t850 => (if (x11.length : Int) = (t850.length : Int) then (numnahlaw06_WettingChronicles.j1 k x11 t850 (x12 != 0)) else (numnahlaw06_WettingChronicles.j1 k x11 t850 true)))) else (if (x11.length : Int) = 0 then (if x12 = 6 then ((numnahlaw06_awake.f).bind fun t848 => (some t848)) else (some false)) else (some false))))
def numnahlaw06_WettingChronicles.j1 : Nat → List (List Int) → List (List Int) → Bool → Option (Bool)
  | 0, _, _, _ => none
  | k + 1, x11, x20, x146 => if x146 = true then (some false) else (numnahlaw06_WettingChronicles.l0 k x11 x20 0)
def numnahlaw06_WettingChronicles.l0 : Nat → List (List Int) → List (List Int) → Int → Option (Bool)
  | 0, _, _, _ => none
  | k + 1, x11, x20, x21 => if x21 < (x11.length : Int) then (if 0 ≤ x21 then (if x21 < (x20.length : Int) then ((numnahlaw06_ints.f k (rd_L3 x11 x21) (rd_L3 x20 x21)).bind fun t855 => (if t855 = true then (numnahlaw06_WettingChronicles.l0 k x11 x20 (wrap64 (x21 + 1))) else (some false))) else (none)) else (none)) else ((numnahlaw06_awake.f).bind fun t856 => (some t856))
end
def numnahlaw06_WettingChronicles.f (k : Nat) (a0 : Int) (l1 : List (S48)) (l2 : List Int) : Option (Bool) := (numnahlaw06_pairs.f l1).bind fun t816 => ((numnahlaw06_list.f l2).bind fun t819 => ((wetting_Chronicle.f a0 t816 t819).bind fun bt822 => ((wetting_Chains.f a0 t816 t819).bind fun bt826 => ((wetting_IsFort.f a0 t816 t819).bind fun bt830 => ((numnahlaw06_valid.f k a0 t816 t819).bind fun t832 => (if t832 = true then ((numnahref06_Near.f a0 t816).bind fun t834 => ((numnahref06_Set.f k t819).bind fun t837 => ((numnahref06_Close.f k t834 t837).bind fun bt838 => ((numnahref06_Set.f k t819).bind fun t842 => ((numnahref06_Chronicle.f k t834 t842 bt822.1).bind fun bt843 => (if bt843.2 = true then (if bt843.1 = bt838.1 then (if bt822.2 = 0 then ((numnahref06_Set.f k t819).bind fun t845 => ((numnahref06_Fort.f k t834 t845).bind fun t846 => (if (bt830.1 != t846) = true then (numnahlaw06_WettingChronicles.j0 k t819 bt826.1 bt826.2 t834 bt838.1 true) else (numnahlaw06_WettingChronicles.j0 k t819 bt826.1 bt826.2 t834 bt838.1 (bt830.2 != 0))))) else (numnahlaw06_WettingChronicles.j0 k t819 bt826.1 bt826.2 t834 bt838.1 true)) else (numnahlaw06_WettingChronicles.j0 k t819 bt826.1 bt826.2 t834 bt838.1 true)) else (numnahlaw06_WettingChronicles.j0 k t819 bt826.1 bt826.2 t834 bt838.1 true))))))) else (if (bt822.1.length : Int) = 0 then (if bt822.2 = 2 then (if (bt826.1.length : Int) = 0 then (if bt826.2 = 2 then (if bt830.1 = true then (some false) else (if bt830.2 = 2 then ((numnahlaw06_awake.f).bind fun t833 => (some t833)) else (some false))) else (some false)) else (some false)) else (some false)) else (some false))))))))
theorem numnahlaw06_WettingChronicles.mono_l : ∀ k, (∀ y0 y1 y2 y3 y4 y5, LeO (numnahlaw06_WettingChronicles.j0 k y0 y1 y2 y3 y4 y5) (numnahlaw06_WettingChronicles.j0 (k + 1) y0 y1 y2 y3 y4 y5)) ∧ (∀ y0 y1 y2, LeO (numnahlaw06_WettingChronicles.j1 k y0 y1 y2) (numnahlaw06_WettingChronicles.j1 (k + 1) y0 y1 y2)) ∧ (∀ y0 y1 y2, LeO (numnahlaw06_WettingChronicles.l0 k y0 y1 y2) (numnahlaw06_WettingChronicles.l0 (k + 1) y0 y1 y2))
  | 0 => ⟨fun _ _ _ _ _ _ r h => by simp [numnahlaw06_WettingChronicles.j0] at h, fun _ _ _ r h => by simp [numnahlaw06_WettingChronicles.j1] at h, fun _ _ _ r h => by simp [numnahlaw06_WettingChronicles.l0] at h⟩
  | k + 1 => by
    obtain ⟨ih0, ih1, ih2⟩ := numnahlaw06_WettingChronicles.mono_l k
    refine ⟨?_, ?_, ?_⟩
    · intro y0 y1 y2 y3 y4 y5
      unfold numnahlaw06_WettingChronicles.j0
      repeat' first
      | (with_reducible exact ih0 _ _ _ _ _ _)
      | (with_reducible exact ih1 _ _ _)
      | (with_reducible exact ih2 _ _ _)
      | (with_reducible exact numnahlaw06_ints.mono _ _ _)
      | (with_reducible exact numnahlaw06_valid.mono _ _ _ _)
      | (with_reducible exact numnahref06_Chains.mono _ _ _)
      | (with_reducible exact numnahref06_Chronicle.mono _ _ _ _)
      | (with_reducible exact numnahref06_Close.mono _ _ _)
      | (with_reducible exact numnahref06_Fort.mono _ _ _)
      | (with_reducible exact numnahref06_Set.mono _ _)
      | (with_reducible exact LeO.refl _)
      | (with_reducible exact LeO.none _)
      | (with_reducible refine LeO.ite ?_ ?_)
      | (with_reducible refine LeO.bind ?_ (fun _ => ?_))
      | exact ih0 _ _ _ _ _ _
      | exact ih1 _ _ _
      | exact ih2 _ _ _
      | exact numnahlaw06_ints.mono _ _ _
      | exact numnahlaw06_valid.mono _ _ _ _
      | exact numnahref06_Chains.mono _ _ _
      | exact numnahref06_Chronicle.mono _ _ _ _
      | exact numnahref06_Close.mono _ _ _
      | exact numnahref06_Fort.mono _ _ _
      | exact numnahref06_Set.mono _ _
      | exact LeO.none _
      | refine LeO.ite ?_ ?_
      | refine LeO.bind ?_ (fun _ => ?_)
    · intro y0 y1 y2
      unfold numnahlaw06_WettingChronicles.j1
      repeat' first
      | (with_reducible exact ih0 _ _ _ _ _ _)
      | (with_reducible exact ih1 _ _ _)
      | (with_reducible exact ih2 _ _ _)
      | (with_reducible exact numnahlaw06_ints.mono _ _ _)
      | (with_reducible exact numnahlaw06_valid.mono _ _ _ _)
      | (with_reducible exact numnahref06_Chains.mono _ _ _)
      | (with_reducible exact numnahref06_Chronicle.mono _ _ _ _)
      | (with_reducible exact numnahref06_Close.mono _ _ _)
      | (with_reducible exact numnahref06_Fort.mono _ _ _)
      | (with_reducible exact numnahref06_Set.mono _ _)
      | (with_reducible exact LeO.refl _)
      | (with_reducible exact LeO.none _)
      | (with_reducible refine LeO.ite ?_ ?_)
      | (with_reducible refine LeO.bind ?_ (fun _ => ?_))
      | exact ih0 _ _ _ _ _ _
      | exact ih1 _ _ _
      | exact ih2 _ _ _
      | exact numnahlaw06_ints.mono _ _ _
      | exact numnahlaw06_valid.mono _ _ _ _
      | exact numnahref06_Chains.mono _ _ _
      | exact numnahref06_Chronicle.mono _ _ _ _
      | exact numnahref06_Close.mono _ _ _
      | exact numnahref06_Fort.mono _ _ _
      | exact numnahref06_Set.mono _ _
      | exact LeO.none _
      | refine LeO.ite ?_ ?_
      | refine LeO.bind ?_ (fun _ => ?_)
    · intro y0 y1 y2
      unfold numnahlaw06_WettingChronicles.l0
      repeat' first
      | (with_reducible exact ih0 _ _ _ _ _ _)
      | (with_reducible exact ih1 _ _ _)
      | (with_reducible exact ih2 _ _ _)
      | (with_reducible exact numnahlaw06_ints.mono _ _ _)
      | (with_reducible exact numnahlaw06_valid.mono _ _ _ _)
      | (with_reducible exact numnahref06_Chains.mono _ _ _)
      | (with_reducible exact numnahref06_Chronicle.mono _ _ _ _)
      | (with_reducible exact numnahref06_Close.mono _ _ _)
      | (with_reducible exact numnahref06_Fort.mono _ _ _)
      | (with_reducible exact numnahref06_Set.mono _ _)
      | (with_reducible exact LeO.refl _)
      | (with_reducible exact LeO.none _)
      | (with_reducible refine LeO.ite ?_ ?_)
      | (with_reducible refine LeO.bind ?_ (fun _ => ?_))
      | exact ih0 _ _ _ _ _ _
      | exact ih1 _ _ _
      | exact ih2 _ _ _
      | exact numnahlaw06_ints.mono _ _ _
      | exact numnahlaw06_valid.mono _ _ _ _
      | exact numnahref06_Chains.mono _ _ _
      | exact numnahref06_Chronicle.mono _ _ _ _
      | exact numnahref06_Close.mono _ _ _
      | exact numnahref06_Fort.mono _ _ _
      | exact numnahref06_Set.mono _ _
      | exact LeO.none _
      | refine LeO.ite ?_ ?_
      | refine LeO.bind ?_ (fun _ => ?_)
theorem numnahlaw06_WettingChronicles.mono : ∀ a0 a1 a2 k, LeO (numnahlaw06_WettingChronicles.f k a0 a1 a2) (numnahlaw06_WettingChronicles.f (k + 1) a0 a1 a2) := by
  intro a0 a1 a2 k
  obtain ⟨ih0, ih1, ih2⟩ := numnahlaw06_WettingChronicles.mono_l k
  unfold numnahlaw06_WettingChronicles.f
  repeat' first
      | (with_reducible exact ih0 _ _ _ _ _ _)
      | (with_reducible exact ih1 _ _ _)
      | (with_reducible exact ih2 _ _ _)
      | (with_reducible exact numnahlaw06_ints.mono _ _ _)
      | (with_reducible exact numnahlaw06_valid.mono _ _ _ _)
      | (with_reducible exact numnahref06_Chains.mono _ _ _)
      | (with_reducible exact numnahref06_Chronicle.mono _ _ _ _)
      | (with_reducible exact numnahref06_Close.mono _ _ _)
      | (with_reducible exact numnahref06_Fort.mono _ _ _)
      | (with_reducible exact numnahref06_Set.mono _ _)
      | (with_reducible exact LeO.refl _)
      | (with_reducible exact LeO.none _)
      | (with_reducible refine LeO.ite ?_ ?_)
      | (with_reducible refine LeO.bind ?_ (fun _ => ?_))
      | exact ih0 _ _ _ _ _ _
      | exact ih1 _ _ _
      | exact ih2 _ _ _
      | exact numnahlaw06_ints.mono _ _ _
      | exact numnahlaw06_valid.mono _ _ _ _
      | exact numnahref06_Chains.mono _ _ _
      | exact numnahref06_Chronicle.mono _ _ _ _
      | exact numnahref06_Close.mono _ _ _
      | exact numnahref06_Fort.mono _ _ _
      | exact numnahref06_Set.mono _ _
      | exact LeO.none _
      | refine LeO.ite ?_ ?_
      | refine LeO.bind ?_ (fun _ => ?_)
set_option maxHeartbeats 8000000 in
set_option maxRecDepth 100000 in
theorem numnahlaw06_WettingChronicles.calls (k : Nat) (a0 : Int) (A1 : Option Addr) (c1 : Nat) (l1 : List (S48)) (A2 : Option Addr) (c2 : Nat) (l2 : List Int) (r : Bool) (w : World) (hr1 : Kd.C k48 w A1 l1.length l1) (hc1 : l1.length ≤ c1) (hr2 : Kd.C (Kd.int .i64) w A2 l2.length l2) (hc2 : l2.length ≤ c2) (h : numnahlaw06_WettingChronicles.f k a0 l1 l2 = some r) (hT : Tab w) :
    Calls Tryd.prog 16 #[.int .i64 a0, .slice A1 l1.length c1, .slice A2 l2.length c2] w fun e w' => e = .returned (.bool r) ∧ Below w.heap.size w w' := by
  have HT := Aside0.mk hT
  clear hT
  have HR1 := Aside0.mk hr1
  have HC1 := Aside0.mk hc1
  clear hr1 hc1
  have HR2 := Aside0.mk hr2
  have HC2 := Aside0.mk hc2
  clear hr2 hc2
  have HB := Aside0.mk (Below.refl w.heap.size w)
  have H : ((numnahlaw06_pairs.f l1).bind fun t816 => ((numnahlaw06_list.f l2).bind fun t819 => ((wetting_Chronicle.f a0 t816 t819).bind fun bt822 => ((wetting_Chains.f a0 t816 t819).bind fun bt826 => ((wetting_IsFort.f a0 t816 t819).bind fun bt830 => ((numnahlaw06_valid.f k a0 t816 t819).bind fun t832 => (if t832 = true then ((numnahref06_Near.f a0 t816).bind fun t834 => ((numnahref06_Set.f k t819).bind fun t837 => ((numnahref06_Close.f k t834 t837).bind fun bt838 => ((numnahref06_Set.f k t819).bind fun t842 => ((numnahref06_Chronicle.f k t834 t842 bt822.1).bind fun bt843 => (if bt843.2 = true then (if bt843.1 = bt838.1 then (if bt822.2 = 0 then ((numnahref06_Set.f k t819).bind fun t845 => ((numnahref06_Fort.f k t834 t845).bind fun t846 => (if (bt830.1 != t846) = true then (numnahlaw06_WettingChronicles.j0 k t819 bt826.1 bt826.2 t834 bt838.1 true) else (numnahlaw06_WettingChronicles.j0 k t819 bt826.1 bt826.2 t834 bt838.1 (bt830.2 != 0))))) else (numnahlaw06_WettingChronicles.j0 k t819 bt826.1 bt826.2 t834 bt838.1 true)) else (numnahlaw06_WettingChronicles.j0 k t819 bt826.1 bt826.2 t834 bt838.1 true)) else (numnahlaw06_WettingChronicles.j0 k t819 bt826.1 bt826.2 t834 bt838.1 true))))))) else (if (bt822.1.length : Int) = 0 then (if bt822.2 = 2 then (if (bt826.1.length : Int) = 0 then (if bt826.2 = 2 then (if bt830.1 = true then (some false) else (if bt830.2 = 2 then ((numnahlaw06_awake.f).bind fun t833 => (some t833)) else (some false))) else (some false)) else (some false)) else (some false)) else (some false))))))))) = some r := h
  clear h
  replace H := Option.bind_eq_some_iff.mp H
  obtain ⟨t816, A40, H⟩ := H
  replace H : ((numnahlaw06_list.f l2).bind fun t819 => ((wetting_Chronicle.f a0 t816 t819).bind fun bt822 => ((wetting_Chains.f a0 t816 t819).bind fun bt826 => ((wetting_IsFort.f a0 t816 t819).bind fun bt830 => ((numnahlaw06_valid.f k a0 t816 t819).bind fun t832 => (if t832 = true then ((numnahref06_Near.f a0 t816).bind fun t834 => ((numnahref06_Set.f k t819).bind fun t837 => ((numnahref06_Close.f k t834 t837).bind fun bt838 => ((numnahref06_Set.f k t819).bind fun t842 => ((numnahref06_Chronicle.f k t834 t842 bt822.1).bind fun bt843 => (if bt843.2 = true then (if bt843.1 = bt838.1 then (if bt822.2 = 0 then ((numnahref06_Set.f k t819).bind fun t845 => ((numnahref06_Fort.f k t834 t845).bind fun t846 => (if (bt830.1 != t846) = true then (numnahlaw06_WettingChronicles.j0 k t819 bt826.1 bt826.2 t834 bt838.1 true) else (numnahlaw06_WettingChronicles.j0 k t819 bt826.1 bt826.2 t834 bt838.1 (bt830.2 != 0))))) else (numnahlaw06_WettingChronicles.j0 k t819 bt826.1 bt826.2 t834 bt838.1 true)) else (numnahlaw06_WettingChronicles.j0 k t819 bt826.1 bt826.2 t834 bt838.1 true)) else (numnahlaw06_WettingChronicles.j0 k t819 bt826.1 bt826.2 t834 bt838.1 true))))))) else (if (bt822.1.length : Int) = 0 then (if bt822.2 = 2 then (if (bt826.1.length : Int) = 0 then (if bt826.2 = 2 then (if bt830.1 = true then (some false) else (if bt830.2 = 2 then ((numnahlaw06_awake.f).bind fun t833 => (some t833)) else (some false))) else (some false)) else (some false)) else (some false)) else (some false)))))))) = some r := H
  have A4 := Aside0.mk A40
  clear A40
  replace H := Option.bind_eq_some_iff.mp H
  obtain ⟨t819, A50, H⟩ := H
  replace H : ((wetting_Chronicle.f a0 t816 t819).bind fun bt822 => ((wetting_Chains.f a0 t816 t819).bind fun bt826 => ((wetting_IsFort.f a0 t816 t819).bind fun bt830 => ((numnahlaw06_valid.f k a0 t816 t819).bind fun t832 => (if t832 = true then ((numnahref06_Near.f a0 t816).bind fun t834 => ((numnahref06_Set.f k t819).bind fun t837 => ((numnahref06_Close.f k t834 t837).bind fun bt838 => ((numnahref06_Set.f k t819).bind fun t842 => ((numnahref06_Chronicle.f k t834 t842 bt822.1).bind fun bt843 => (if bt843.2 = true then (if bt843.1 = bt838.1 then (if bt822.2 = 0 then ((numnahref06_Set.f k t819).bind fun t845 => ((numnahref06_Fort.f k t834 t845).bind fun t846 => (if (bt830.1 != t846) = true then (numnahlaw06_WettingChronicles.j0 k t819 bt826.1 bt826.2 t834 bt838.1 true) else (numnahlaw06_WettingChronicles.j0 k t819 bt826.1 bt826.2 t834 bt838.1 (bt830.2 != 0))))) else (numnahlaw06_WettingChronicles.j0 k t819 bt826.1 bt826.2 t834 bt838.1 true)) else (numnahlaw06_WettingChronicles.j0 k t819 bt826.1 bt826.2 t834 bt838.1 true)) else (numnahlaw06_WettingChronicles.j0 k t819 bt826.1 bt826.2 t834 bt838.1 true))))))) else (if (bt822.1.length : Int) = 0 then (if bt822.2 = 2 then (if (bt826.1.length : Int) = 0 then (if bt826.2 = 2 then (if bt830.1 = true then (some false) else (if bt830.2 = 2 then ((numnahlaw06_awake.f).bind fun t833 => (some t833)) else (some false))) else (some false)) else (some false)) else (some false)) else (some false))))))) = some r := H
  have A5 := Aside0.mk A50
  clear A50
  replace H := Option.bind_eq_some_iff.mp H
  obtain ⟨⟨t822, t823⟩, A60, H⟩ := H
  replace H : ((wetting_Chains.f a0 t816 t819).bind fun bt826 => ((wetting_IsFort.f a0 t816 t819).bind fun bt830 => ((numnahlaw06_valid.f k a0 t816 t819).bind fun t832 => (if t832 = true then ((numnahref06_Near.f a0 t816).bind fun t834 => ((numnahref06_Set.f k t819).bind fun t837 => ((numnahref06_Close.f k t834 t837).bind fun bt838 => ((numnahref06_Set.f k t819).bind fun t842 => ((numnahref06_Chronicle.f k t834 t842 t822).bind fun bt843 => (if bt843.2 = true then (if bt843.1 = bt838.1 then (if t823 = 0 then ((numnahref06_Set.f k t819).bind fun t845 => ((numnahref06_Fort.f k t834 t845).bind fun t846 => (if (bt830.1 != t846) = true then (numnahlaw06_WettingChronicles.j0 k t819 bt826.1 bt826.2 t834 bt838.1 true) else (numnahlaw06_WettingChronicles.j0 k t819 bt826.1 bt826.2 t834 bt838.1 (bt830.2 != 0))))) else (numnahlaw06_WettingChronicles.j0 k t819 bt826.1 bt826.2 t834 bt838.1 true)) else (numnahlaw06_WettingChronicles.j0 k t819 bt826.1 bt826.2 t834 bt838.1 true)) else (numnahlaw06_WettingChronicles.j0 k t819 bt826.1 bt826.2 t834 bt838.1 true))))))) else (if (t822.length : Int) = 0 then (if t823 = 2 then (if (bt826.1.length : Int) = 0 then (if bt826.2 = 2 then (if bt830.1 = true then (some false) else (if bt830.2 = 2 then ((numnahlaw06_awake.f).bind fun t833 => (some t833)) else (some false))) else (some false)) else (some false)) else (some false)) else (some false)))))) = some r := H
  have A6 := Aside0.mk A60
  clear A60
  replace H := Option.bind_eq_some_iff.mp H
  obtain ⟨⟨t826, t827⟩, A70, H⟩ := H
  replace H : ((wetting_IsFort.f a0 t816 t819).bind fun bt830 => ((numnahlaw06_valid.f k a0 t816 t819).bind fun t832 => (if t832 = true then ((numnahref06_Near.f a0 t816).bind fun t834 => ((numnahref06_Set.f k t819).bind fun t837 => ((numnahref06_Close.f k t834 t837).bind fun bt838 => ((numnahref06_Set.f k t819).bind fun t842 => ((numnahref06_Chronicle.f k t834 t842 t822).bind fun bt843 => (if bt843.2 = true then (if bt843.1 = bt838.1 then (if t823 = 0 then ((numnahref06_Set.f k t819).bind fun t845 => ((numnahref06_Fort.f k t834 t845).bind fun t846 => (if (bt830.1 != t846) = true then (numnahlaw06_WettingChronicles.j0 k t819 t826 t827 t834 bt838.1 true) else (numnahlaw06_WettingChronicles.j0 k t819 t826 t827 t834 bt838.1 (bt830.2 != 0))))) else (numnahlaw06_WettingChronicles.j0 k t819 t826 t827 t834 bt838.1 true)) else (numnahlaw06_WettingChronicles.j0 k t819 t826 t827 t834 bt838.1 true)) else (numnahlaw06_WettingChronicles.j0 k t819 t826 t827 t834 bt838.1 true))))))) else (if (t822.length : Int) = 0 then (if t823 = 2 then (if (t826.length : Int) = 0 then (if t827 = 2 then (if bt830.1 = true then (some false) else (if bt830.2 = 2 then ((numnahlaw06_awake.f).bind fun t833 => (some t833)) else (some false))) else (some false)) else (some false)) else (some false)) else (some false))))) = some r := H
  have A7 := Aside0.mk A70
  clear A70
  replace H := Option.bind_eq_some_iff.mp H
  obtain ⟨⟨t830, t831⟩, A80, H⟩ := H
  replace H : ((numnahlaw06_valid.f k a0 t816 t819).bind fun t832 => (if t832 = true then ((numnahref06_Near.f a0 t816).bind fun t834 => ((numnahref06_Set.f k t819).bind fun t837 => ((numnahref06_Close.f k t834 t837).bind fun bt838 => ((numnahref06_Set.f k t819).bind fun t842 => ((numnahref06_Chronicle.f k t834 t842 t822).bind fun bt843 => (if bt843.2 = true then (if bt843.1 = bt838.1 then (if t823 = 0 then ((numnahref06_Set.f k t819).bind fun t845 => ((numnahref06_Fort.f k t834 t845).bind fun t846 => (if (t830 != t846) = true then (numnahlaw06_WettingChronicles.j0 k t819 t826 t827 t834 bt838.1 true) else (numnahlaw06_WettingChronicles.j0 k t819 t826 t827 t834 bt838.1 (t831 != 0))))) else (numnahlaw06_WettingChronicles.j0 k t819 t826 t827 t834 bt838.1 true)) else (numnahlaw06_WettingChronicles.j0 k t819 t826 t827 t834 bt838.1 true)) else (numnahlaw06_WettingChronicles.j0 k t819 t826 t827 t834 bt838.1 true))))))) else (if (t822.length : Int) = 0 then (if t823 = 2 then (if (t826.length : Int) = 0 then (if t827 = 2 then (if t830 = true then (some false) else (if t831 = 2 then ((numnahlaw06_awake.f).bind fun t833 => (some t833)) else (some false))) else (some false)) else (some false)) else (some false)) else (some false)))) = some r := H
  have A8 := Aside0.mk A80
  clear A80
  replace H := Option.bind_eq_some_iff.mp H
  obtain ⟨t832, A90, H⟩ := H
  replace H : (if t832 = true then ((numnahref06_Near.f a0 t816).bind fun t834 => ((numnahref06_Set.f k t819).bind fun t837 => ((numnahref06_Close.f k t834 t837).bind fun bt838 => ((numnahref06_Set.f k t819).bind fun t842 => ((numnahref06_Chronicle.f k t834 t842 t822).bind fun bt843 => (if bt843.2 = true then (if bt843.1 = bt838.1 then (if t823 = 0 then ((numnahref06_Set.f k t819).bind fun t845 => ((numnahref06_Fort.f k t834 t845).bind fun t846 => (if (t830 != t846) = true then (numnahlaw06_WettingChronicles.j0 k t819 t826 t827 t834 bt838.1 true) else (numnahlaw06_WettingChronicles.j0 k t819 t826 t827 t834 bt838.1 (t831 != 0))))) else (numnahlaw06_WettingChronicles.j0 k t819 t826 t827 t834 bt838.1 true)) else (numnahlaw06_WettingChronicles.j0 k t819 t826 t827 t834 bt838.1 true)) else (numnahlaw06_WettingChronicles.j0 k t819 t826 t827 t834 bt838.1 true))))))) else (if (t822.length : Int) = 0 then (if t823 = 2 then (if (t826.length : Int) = 0 then (if t827 = 2 then (if t830 = true then (some false) else (if t831 = 2 then ((numnahlaw06_awake.f).bind fun t833 => (some t833)) else (some false))) else (some false)) else (some false)) else (some false)) else (some false))) = some r := H
  have A9 := Aside0.mk A90
  clear A90
  by_cases c10 : t832 = true
  · subst c10
    have H1 : ((numnahref06_Near.f a0 t816).bind fun t834 => ((numnahref06_Set.f k t819).bind fun t837 => ((numnahref06_Close.f k t834 t837).bind fun bt838 => ((numnahref06_Set.f k t819).bind fun t842 => ((numnahref06_Chronicle.f k t834 t842 t822).bind fun bt843 => (if bt843.2 = true then (if bt843.1 = bt838.1 then (if t823 = 0 then ((numnahref06_Set.f k t819).bind fun t845 => ((numnahref06_Fort.f k t834 t845).bind fun t846 => (if (t830 != t846) = true then (numnahlaw06_WettingChronicles.j0 k t819 t826 t827 t834 bt838.1 true) else (numnahlaw06_WettingChronicles.j0 k t819 t826 t827 t834 bt838.1 (t831 != 0))))) else (numnahlaw06_WettingChronicles.j0 k t819 t826 t827 t834 bt838.1 true)) else (numnahlaw06_WettingChronicles.j0 k t819 t826 t827 t834 bt838.1 true)) else (numnahlaw06_WettingChronicles.j0 k t819 t826 t827 t834 bt838.1 true))))))) = some r := by rw [if_pos rfl] at H; exact H
    clear H
    have H := H1
    clear H1
    replace H := Option.bind_eq_some_iff.mp H
    obtain ⟨t834, A110, H⟩ := H
    replace H : ((numnahref06_Set.f k t819).bind fun t837 => ((numnahref06_Close.f k t834 t837).bind fun bt838 => ((numnahref06_Set.f k t819).bind fun t842 => ((numnahref06_Chronicle.f k t834 t842 t822).bind fun bt843 => (if bt843.2 = true then (if bt843.1 = bt838.1 then (if t823 = 0 then ((numnahref06_Set.f k t819).bind fun t845 => ((numnahref06_Fort.f k t834 t845).bind fun t846 => (if (t830 != t846) = true then (numnahlaw06_WettingChronicles.j0 k t819 t826 t827 t834 bt838.1 true) else (numnahlaw06_WettingChronicles.j0 k t819 t826 t827 t834 bt838.1 (t831 != 0))))) else (numnahlaw06_WettingChronicles.j0 k t819 t826 t827 t834 bt838.1 true)) else (numnahlaw06_WettingChronicles.j0 k t819 t826 t827 t834 bt838.1 true)) else (numnahlaw06_WettingChronicles.j0 k t819 t826 t827 t834 bt838.1 true)))))) = some r := H
    have A11 := Aside0.mk A110
    clear A110
    replace H := Option.bind_eq_some_iff.mp H
    obtain ⟨t837, A120, H⟩ := H
    replace H : ((numnahref06_Close.f k t834 t837).bind fun bt838 => ((numnahref06_Set.f k t819).bind fun t842 => ((numnahref06_Chronicle.f k t834 t842 t822).bind fun bt843 => (if bt843.2 = true then (if bt843.1 = bt838.1 then (if t823 = 0 then ((numnahref06_Set.f k t819).bind fun t845 => ((numnahref06_Fort.f k t834 t845).bind fun t846 => (if (t830 != t846) = true then (numnahlaw06_WettingChronicles.j0 k t819 t826 t827 t834 bt838.1 true) else (numnahlaw06_WettingChronicles.j0 k t819 t826 t827 t834 bt838.1 (t831 != 0))))) else (numnahlaw06_WettingChronicles.j0 k t819 t826 t827 t834 bt838.1 true)) else (numnahlaw06_WettingChronicles.j0 k t819 t826 t827 t834 bt838.1 true)) else (numnahlaw06_WettingChronicles.j0 k t819 t826 t827 t834 bt838.1 true))))) = some r := H
    have A12 := Aside0.mk A120
    clear A120
    replace H := Option.bind_eq_some_iff.mp H
    obtain ⟨⟨t838, t839⟩, A130, H⟩ := H
    replace H : ((numnahref06_Set.f k t819).bind fun t842 => ((numnahref06_Chronicle.f k t834 t842 t822).bind fun bt843 => (if bt843.2 = true then (if bt843.1 = t838 then (if t823 = 0 then ((numnahref06_Set.f k t819).bind fun t845 => ((numnahref06_Fort.f k t834 t845).bind fun t846 => (if (t830 != t846) = true then (numnahlaw06_WettingChronicles.j0 k t819 t826 t827 t834 t838 true) else (numnahlaw06_WettingChronicles.j0 k t819 t826 t827 t834 t838 (t831 != 0))))) else (numnahlaw06_WettingChronicles.j0 k t819 t826 t827 t834 t838 true)) else (numnahlaw06_WettingChronicles.j0 k t819 t826 t827 t834 t838 true)) else (numnahlaw06_WettingChronicles.j0 k t819 t826 t827 t834 t838 true)))) = some r := H
    have A13 := Aside0.mk A130
    clear A130
    replace H := Option.bind_eq_some_iff.mp H
    obtain ⟨t842, A140, H⟩ := H
    replace H : ((numnahref06_Chronicle.f k t834 t842 t822).bind fun bt843 => (if bt843.2 = true then (if bt843.1 = t838 then (if t823 = 0 then ((numnahref06_Set.f k t819).bind fun t845 => ((numnahref06_Fort.f k t834 t845).bind fun t846 => (if (t830 != t846) = true then (numnahlaw06_WettingChronicles.j0 k t819 t826 t827 t834 t838 true) else (numnahlaw06_WettingChronicles.j0 k t819 t826 t827 t834 t838 (t831 != 0))))) else (numnahlaw06_WettingChronicles.j0 k t819 t826 t827 t834 t838 true)) else (numnahlaw06_WettingChronicles.j0 k t819 t826 t827 t834 t838 true)) else (numnahlaw06_WettingChronicles.j0 k t819 t826 t827 t834 t838 true))) = some r := H
    have A14 := Aside0.mk A140
    clear A140
    replace H := Option.bind_eq_some_iff.mp H
    obtain ⟨⟨t843, t844⟩, A150, H⟩ := H
    replace H : (if t844 = true then (if t843 = t838 then (if t823 = 0 then ((numnahref06_Set.f k t819).bind fun t845 => ((numnahref06_Fort.f k t834 t845).bind fun t846 => (if (t830 != t846) = true then (numnahlaw06_WettingChronicles.j0 k t819 t826 t827 t834 t838 true) else (numnahlaw06_WettingChronicles.j0 k t819 t826 t827 t834 t838 (t831 != 0))))) else (numnahlaw06_WettingChronicles.j0 k t819 t826 t827 t834 t838 true)) else (numnahlaw06_WettingChronicles.j0 k t819 t826 t827 t834 t838 true)) else (numnahlaw06_WettingChronicles.j0 k t819 t826 t827 t834 t838 true)) = some r := H
    have A15 := Aside0.mk A150
    clear A150
    have HC16 := Aside0.mk H
    clear H
    go_enter Tryd.func16, Tryd.ntmps16
    go_upto_region 10 with (first | (go_at_call 17; (with_reducible refine (numnahlaw06_pairs.calls _ _ l1 t816 _ ?side1 ?side2 A4.out).mono ?_); (case side1 => repeat (first | exact HR1.out | (with_reducible refine Kd.C_alloc ?_ _) | (with_reducible refine Kd.C_drewN ?_ _) | (with_reducible refine Kd.C_drew ?_))); (case side2 => exact HC1.out); rintro e w17 ⟨v817, rfl, ho0, hb⟩; have n0_ := Aside0.mk (Kd.R_lower ho0 (below_size (by repeat (first | (with_reducible first | exact HB.out | apply below_alloc | apply pw_below_drewN | apply below_drew1) | exact HB.out)))); have n1_ := Aside0.mk (below_step (by repeat (first | (with_reducible first | exact HB.out | apply below_alloc | apply pw_below_drewN | apply below_drew1) | exact HB.out)) hb); clear HB; have HO818 := n0_; have HB := n1_; clear n0_ n1_; (try clear hb); (try clear hb2); (try clear hk); (try clear hi); (try clear ho0)) | (go_at_call 36; (with_reducible refine (numnahlaw06_list.calls _ _ l2 t819 _ ?side1 ?side2 A5.out).mono ?_); (case side1 => repeat (first | exact (Kd.C_below HR2.out HB.out) | (with_reducible refine Kd.C_alloc ?_ _) | (with_reducible refine Kd.C_drewN ?_ _) | (with_reducible refine Kd.C_drew ?_))); (case side2 => exact HC2.out); rintro e w18 ⟨v820, rfl, ho0, hb⟩; have n0_ := Aside0.mk (Kd.R_below (by (with_reducible repeat (first | apply Kd.R_alloc | apply Kd.R_drewN | apply Kd.R_drew)); exact HO818.out) hb); have n1_ := Aside0.mk (Kd.R_lower ho0 (below_size (by repeat (first | (with_reducible first | exact HB.out | apply below_alloc | apply pw_below_drewN | apply below_drew1) | exact HB.out)))); have n2_ := Aside0.mk (below_step (by repeat (first | (with_reducible first | exact HB.out | apply below_alloc | apply pw_below_drewN | apply below_drew1) | exact HB.out)) hb); clear HO818; clear HB; have HO818 := n0_; have HO821 := n1_; have HB := n2_; clear n0_ n1_ n2_; (try clear hb); (try clear hb2); (try clear hk); (try clear hi); (try clear ho0); obtain ⟨Ao19, co19, eo19⟩ := Kd.R_slice HO818.out; subst eo19; obtain ⟨Ao20, co20, eo20⟩ := Kd.R_slice HO821.out; subst eo20) | (go_at_call 54; (with_reducible refine (wetting_Chronicle.calls a0 _ _ t816 _ _ t819 t822 t823 _ ?side1 ?side2 ?side3 ?side4 A6.out ?sideT).mono ?_); (case sideT => exact tab_of (by repeat (first | (with_reducible first | exact HB.out | apply below_alloc | apply pw_below_drewN | apply below_drew1) | exact HB.out)) HT.out); (case side1 => repeat (first | exact (Kd.R_reads' HO818.out).2.2 | (with_reducible refine Kd.C_alloc ?_ _) | (with_reducible refine Kd.C_drewN ?_ _) | (with_reducible refine Kd.C_drew ?_))); (case side2 => exact (Kd.R_reads' HO818.out).2.1); (case side3 => repeat (first | exact (Kd.R_reads' HO821.out).2.2 | (with_reducible refine Kd.C_alloc ?_ _) | (with_reducible refine Kd.C_drewN ?_ _) | (with_reducible refine Kd.C_drew ?_))); (case side4 => exact (Kd.R_reads' HO821.out).2.1); rintro e w21 ⟨v824, rfl, ho0, hb⟩; have n0_ := Aside0.mk (Kd.R_elder' (by (with_reducible repeat (first | apply Kd.R_alloc | apply Kd.R_drewN | apply Kd.R_drew)); exact HO818.out) (Kd.R_base ho0) hb); have n1_ := Aside0.mk (Kd.R_below (by (with_reducible repeat (first | apply Kd.R_alloc | apply Kd.R_drewN | apply Kd.R_drew)); exact HO821.out) hb); have n2_ := Aside0.mk (Kd.R_lower (Kd.R_new' ho0 (Kd.R_lt (by (with_reducible repeat (first | apply Kd.R_alloc | apply Kd.R_drewN | apply Kd.R_drew)); exact HO818.out))) (below_size (by repeat (first | (with_reducible first | exact HB.out | apply below_alloc | apply pw_below_drewN | apply below_drew1) | exact HB.out)))); have n3_ := Aside0.mk (below_step (by repeat (first | (with_reducible first | exact HB.out | apply below_alloc | apply pw_below_drewN | apply below_drew1) | exact HB.out)) hb); clear HO818; clear HO821; clear HB; have HO818 := n0_; have HO821 := n1_; have HO825 := n2_; have HB := n3_; clear n0_ n1_ n2_ n3_; (try clear hb); (try clear hb2); (try clear hk); (try clear hi); (try clear ho0)) | (go_at_call 53; (with_reducible refine (wetting_Chains.calls a0 _ _ t816 _ _ t819 t826 t827 _ ?side1 ?side2 ?side3 ?side4 A7.out ?sideT).mono ?_); (case sideT => exact tab_of (by repeat (first | (with_reducible first | exact HB.out | apply below_alloc | apply pw_below_drewN | apply below_drew1) | exact HB.out)) HT.out); (case side1 => repeat (first | exact (Kd.R_reads' HO818.out).2.2 | (with_reducible refine Kd.C_alloc ?_ _) | (with_reducible refine Kd.C_drewN ?_ _) | (with_reducible refine Kd.C_drew ?_))); (case side2 => exact (Kd.R_reads' HO818.out).2.1); (case side3 => repeat (first | exact (Kd.R_reads' HO821.out).2.2 | (with_reducible refine Kd.C_alloc ?_ _) | (with_reducible refine Kd.C_drewN ?_ _) | (with_reducible refine Kd.C_drew ?_))); (case side4 => exact (Kd.R_reads' HO821.out).2.1); rintro e w22 ⟨v828, rfl, ho0, hb⟩; have n0_ := Aside0.mk (Kd.R_below (by (with_reducible repeat (first | apply Kd.R_alloc | apply Kd.R_drewN | apply Kd.R_drew)); exact HO818.out) hb); have n1_ := Aside0.mk (Kd.R_below (by (with_reducible repeat (first | apply Kd.R_alloc | apply Kd.R_drewN | apply Kd.R_drew)); exact HO821.out) hb); have n2_ := Aside0.mk (Kd.R_below (by (with_reducible repeat (first | apply Kd.R_alloc | apply Kd.R_drewN | apply Kd.R_drew)); exact HO825.out) hb); have n3_ := Aside0.mk (Kd.S_lower (Kd.S_new' ho0 (Kd.R_lt (by (with_reducible repeat (first | apply Kd.R_alloc | apply Kd.R_drewN | apply Kd.R_drew)); exact HO821.out))) (below_size (by repeat (first | (with_reducible first | exact HB.out | apply below_alloc | apply pw_below_drewN | apply below_drew1) | exact HB.out)))); have n4_ := Aside0.mk (below_step (by repeat (first | (with_reducible first | exact HB.out | apply below_alloc | apply pw_below_drewN | apply below_drew1) | exact HB.out)) hb); clear HO818; clear HO821; clear HO825; clear HB; have HO818 := n0_; have HO821 := n1_; have HO825 := n2_; have HO829 := n3_; have HB := n4_; clear n0_ n1_ n2_ n3_ n4_; (try clear hb); (try clear hb2); (try clear hk); (try clear hi); (try clear ho0)) | (go_at_call 31; (with_reducible refine (wetting_IsFort.calls a0 _ _ t816 _ _ t819 t830 t831 _ ?side1 ?side2 ?side3 ?side4 A8.out ?sideT).mono ?_); (case sideT => exact tab_of (by repeat (first | (with_reducible first | exact HB.out | apply below_alloc | apply pw_below_drewN | apply below_drew1) | exact HB.out)) HT.out); (case side1 => repeat (first | exact (Kd.R_reads' HO818.out).2.2 | (with_reducible refine Kd.C_alloc ?_ _) | (with_reducible refine Kd.C_drewN ?_ _) | (with_reducible refine Kd.C_drew ?_))); (case side2 => exact (Kd.R_reads' HO818.out).2.1); (case side3 => repeat (first | exact (Kd.R_reads' HO821.out).2.2 | (with_reducible refine Kd.C_alloc ?_ _) | (with_reducible refine Kd.C_drewN ?_ _) | (with_reducible refine Kd.C_drew ?_))); (case side4 => exact (Kd.R_reads' HO821.out).2.1); rintro e w23 ⟨rfl, hb⟩; have n0_ := Aside0.mk (Kd.R_below (by (with_reducible repeat (first | apply Kd.R_alloc | apply Kd.R_drewN | apply Kd.R_drew)); exact HO818.out) hb); have n1_ := Aside0.mk (Kd.R_below (by (with_reducible repeat (first | apply Kd.R_alloc | apply Kd.R_drewN | apply Kd.R_drew)); exact HO821.out) hb); have n2_ := Aside0.mk (Kd.R_below (by (with_reducible repeat (first | apply Kd.R_alloc | apply Kd.R_drewN | apply Kd.R_drew)); exact HO825.out) hb); have n3_ := Aside0.mk (Kd.S_below (by (with_reducible repeat (first | apply Kd.S_alloc | apply Kd.S_drewN | apply Kd.S_drew)); exact HO829.out) hb); have n4_ := Aside0.mk (below_step (by repeat (first | (with_reducible first | exact HB.out | apply below_alloc | apply pw_below_drewN | apply below_drew1) | exact HB.out)) hb); clear HO818; clear HO821; clear HO825; clear HO829; clear HB; have HO818 := n0_; have HO821 := n1_; have HO825 := n2_; have HO829 := n3_; have HB := n4_; clear n0_ n1_ n2_ n3_ n4_; (try clear hb); (try clear hb2); (try clear hk); (try clear hi)) | (go_at_call 39; (with_reducible refine (numnahlaw06_valid.calls k a0 _ _ t816 _ _ t819 true _ ?side1 ?side2 ?side3 ?side4 A9.out).mono ?_); (case side1 => repeat (first | exact (Kd.R_reads' HO818.out).2.2 | (with_reducible refine Kd.C_alloc ?_ _) | (with_reducible refine Kd.C_drewN ?_ _) | (with_reducible refine Kd.C_drew ?_))); (case side2 => exact (Kd.R_reads' HO818.out).2.1); (case side3 => repeat (first | exact (Kd.R_reads' HO821.out).2.2 | (with_reducible refine Kd.C_alloc ?_ _) | (with_reducible refine Kd.C_drewN ?_ _) | (with_reducible refine Kd.C_drew ?_))); (case side4 => exact (Kd.R_reads' HO821.out).2.1); rintro e w' ⟨rfl, ⟨nd, rfl⟩⟩; (try first | exact ⟨rfl, _, World.drewN_drewN _ _ _⟩ | exact ⟨rfl, _, Eq.trans (World.drewN_drewN _ _ _) (congrArg (World.drewN _) (Nat.add_assoc _ _ _))⟩)) | (go_at_call 22; (with_reducible refine (numnahref06_Near.calls a0 _ _ t816 t834 _ ?side1 ?side2 A11.out).mono ?_); (case side1 => repeat (first | exact (Kd.R_reads' HO818.out).2.2 | (with_reducible refine Kd.C_alloc ?_ _) | (with_reducible refine Kd.C_drewN ?_ _) | (with_reducible refine Kd.C_drew ?_))); (case side2 => exact (Kd.R_reads' HO818.out).2.1); rintro e w24 ⟨v835, rfl, ho0, hb⟩; have n0_ := Aside0.mk (Kd.R_below (by (with_reducible repeat (first | apply Kd.R_alloc | apply Kd.R_drewN | apply Kd.R_drew)); exact HO818.out) hb); have n1_ := Aside0.mk (Kd.R_elder' (by (with_reducible repeat (first | apply Kd.R_alloc | apply Kd.R_drewN | apply Kd.R_drew)); exact HO821.out) (Kd.R_base ho0) hb); have n2_ := Aside0.mk (Kd.R_below (by (with_reducible repeat (first | apply Kd.R_alloc | apply Kd.R_drewN | apply Kd.R_drew)); exact HO825.out) hb); have n3_ := Aside0.mk (Kd.S_elder' (by (with_reducible repeat (first | apply Kd.S_alloc | apply Kd.S_drewN | apply Kd.S_drew)); exact HO829.out) (Kd.R_base ho0) hb); have n4_ := Aside0.mk (Kd.R_lower (Kd.R_new' ho0 (Kd.R_lt (by (with_reducible repeat (first | apply Kd.R_alloc | apply Kd.R_drewN | apply Kd.R_drew)); exact HO821.out))) (below_size (by repeat (first | (with_reducible first | exact HB.out | apply below_alloc | apply pw_below_drewN | apply below_drew1) | exact HB.out)))); have n5_ := Aside0.mk (below_step (by repeat (first | (with_reducible first | exact HB.out | apply below_alloc | apply pw_below_drewN | apply below_drew1) | exact HB.out)) hb); clear HO818; clear HO821; clear HO825; clear HO829; clear HB; have HO818 := n0_; have HO821 := n1_; have HO825 := n2_; have HO829 := n3_; have HO836 := n4_; have HB := n5_; clear n0_ n1_ n2_ n3_ n4_ n5_; (try clear hb); (try clear hb2); (try clear hk); (try clear hi); (try clear ho0)) | (go_at_call 32; (with_reducible refine (numnahref06_Set.calls k _ _ t819 t837 _ ?side1 ?side2 A12.out).mono ?_); (case side1 => repeat (first | exact (Kd.R_reads' HO821.out).2.2 | (with_reducible refine Kd.C_alloc ?_ _) | (with_reducible refine Kd.C_drewN ?_ _) | (with_reducible refine Kd.C_drew ?_))); (case side2 => exact (Kd.R_reads' HO821.out).2.1); rintro e w' ⟨rfl, ⟨nd, rfl⟩⟩; (try first | exact ⟨rfl, _, World.drewN_drewN _ _ _⟩ | exact ⟨rfl, _, Eq.trans (World.drewN_drewN _ _ _) (congrArg (World.drewN _) (Nat.add_assoc _ _ _))⟩); obtain ⟨Ao25, co25, eo25⟩ := Kd.R_slice HO836.out; subst eo25) | (go_at_call 37; (with_reducible refine (numnahref06_Close.calls k _ _ t834 t837 t838 t839 _ ?side1 ?side2 A13.out).mono ?_); (case side1 => repeat (first | exact (Kd.R_reads' HO836.out).2.2 | (with_reducible refine Kd.C_alloc ?_ _) | (with_reducible refine Kd.C_drewN ?_ _) | (with_reducible refine Kd.C_drew ?_))); (case side2 => exact (Kd.R_reads' HO836.out).2.1); rintro e w26 ⟨v840, rfl, ho0, hb⟩; have n0_ := Aside0.mk (Kd.R_below (by (with_reducible repeat (first | apply Kd.R_alloc | apply Kd.R_drewN | apply Kd.R_drew)); exact HO818.out) hb); have n1_ := Aside0.mk (Kd.R_elder' (by (with_reducible repeat (first | apply Kd.R_alloc | apply Kd.R_drewN | apply Kd.R_drew)); exact HO821.out) (Kd.R_base ho0) hb); have n2_ := Aside0.mk (Kd.R_below (by (with_reducible repeat (first | apply Kd.R_alloc | apply Kd.R_drewN | apply Kd.R_drew)); exact HO825.out) hb); have n3_ := Aside0.mk (Kd.S_elder' (by (with_reducible repeat (first | apply Kd.S_alloc | apply Kd.S_drewN | apply Kd.S_drew)); exact HO829.out) (Kd.R_base ho0) hb); have n4_ := Aside0.mk (Kd.R_elder' (by (with_reducible repeat (first | apply Kd.R_alloc | apply Kd.R_drewN | apply Kd.R_drew)); exact HO836.out) (Kd.R_base ho0) hb); have n5_ := Aside0.mk (Kd.R_lower (Kd.R_new' (Kd.R_new' ho0 (Kd.R_lt (by (with_reducible repeat (first | apply Kd.R_alloc | apply Kd.R_drewN | apply Kd.R_drew)); exact HO821.out))) (Kd.R_lt (by (with_reducible repeat (first | apply Kd.R_alloc | apply Kd.R_drewN | apply Kd.R_drew)); exact HO836.out))) (below_size (by repeat (first | (with_reducible first | exact HB.out | apply below_alloc | apply pw_below_drewN | apply below_drew1) | exact HB.out)))); have n6_ := Aside0.mk (below_step (by repeat (first | (with_reducible first | exact HB.out | apply below_alloc | apply pw_below_drewN | apply below_drew1) | exact HB.out)) hb); clear HO818; clear HO821; clear HO825; clear HO829; clear HO836; clear HB; have HO818 := n0_; have HO821 := n1_; have HO825 := n2_; have HO829 := n3_; have HO836 := n4_; have HO841 := n5_; have HB := n6_; clear n0_ n1_ n2_ n3_ n4_ n5_ n6_; (try clear hb); (try clear hb2); (try clear hk); (try clear hi); (try clear ho0)) | (go_at_call 32; (with_reducible refine (numnahref06_Set.calls k _ _ t819 t842 _ ?side1 ?side2 A14.out).mono ?_); (case side1 => repeat (first | exact (Kd.R_reads' HO821.out).2.2 | (with_reducible refine Kd.C_alloc ?_ _) | (with_reducible refine Kd.C_drewN ?_ _) | (with_reducible refine Kd.C_drew ?_))); (case side2 => exact (Kd.R_reads' HO821.out).2.1); rintro e w' ⟨rfl, ⟨nd, rfl⟩⟩; (try first | exact ⟨rfl, _, World.drewN_drewN _ _ _⟩ | exact ⟨rfl, _, Eq.trans (World.drewN_drewN _ _ _) (congrArg (World.drewN _) (Nat.add_assoc _ _ _))⟩); obtain ⟨Ao27, co27, eo27⟩ := Kd.R_slice HO825.out; subst eo27) | (go_at_call 40; (with_reducible refine (numnahref06_Chronicle.calls k _ _ t834 t842 _ _ t822 t843 t844 _ ?side1 ?side2 ?side3 ?side4 A15.out).mono ?_); (case side1 => repeat (first | exact (Kd.R_reads' HO836.out).2.2 | (with_reducible refine Kd.C_alloc ?_ _) | (with_reducible refine Kd.C_drewN ?_ _) | (with_reducible refine Kd.C_drew ?_))); (case side2 => exact (Kd.R_reads' HO836.out).2.1); (case side3 => repeat (first | exact (Kd.R_reads' HO825.out).2.2 | (with_reducible refine Kd.C_alloc ?_ _) | (with_reducible refine Kd.C_drewN ?_ _) | (with_reducible refine Kd.C_drew ?_))); (case side4 => exact (Kd.R_reads' HO825.out).2.1); rintro e w' ⟨rfl, ⟨nd, rfl⟩⟩; (try first | exact ⟨rfl, _, World.drewN_drewN _ _ _⟩ | exact ⟨rfl, _, Eq.trans (World.drewN_drewN _ _ _) (congrArg (World.drewN _) (Nat.add_assoc _ _ _))⟩)))
    (try simp only [Act.put, List.setIfInBounds_toArray, List.set_cons_zero, List.set_cons_succ])
    go_cut [119] (fun v119 wc => ∃ (kq : Nat) (x119_15 : Bool), v119 = .bool x119_15 ∧ Aside0 (numnahlaw06_WettingChronicles.j0 kq t819 t826 t827 t834 t838 x119_15 = some r) ∧ Aside0 (kq ≤ k) ∧ Aside0 (Kd.R (Kd.int .i64) 3 wc w.heap.size (fun k_ => some k_ ≠ ((.slice Ao25 t834.length co25) : Value).ownBlock) (.slice Ao20 t819.length co20) t819) ∧ Aside0 (Kd.S (Kd.slice 3 (Kd.int .i64)) 24 wc w.heap.size (fun k_ => some k_ ≠ ((.slice Ao20 t819.length co20) : Value).ownBlock ∧ some k_ ≠ ((.slice Ao25 t834.length co25) : Value).ownBlock) v828 t826) ∧ Aside0 (Kd.R (Kd.int .i64) 3 wc w.heap.size (fun k_ => some k_ ≠ ((.slice Ao20 t819.length co20) : Value).ownBlock) (.slice Ao25 t834.length co25) t834) ∧ Aside0 (Below w.heap.size w wc))
    case first =>
      have H := HC16.out
      clear HC16
      by_cases c28 : t844 = true
      · subst c28
        have H1 : (if t843 = t838 then (if t823 = 0 then ((numnahref06_Set.f k t819).bind fun t845 => ((numnahref06_Fort.f k t834 t845).bind fun t846 => (if (t830 != t846) = true then (numnahlaw06_WettingChronicles.j0 k t819 t826 t827 t834 t838 true) else (numnahlaw06_WettingChronicles.j0 k t819 t826 t827 t834 t838 (t831 != 0))))) else (numnahlaw06_WettingChronicles.j0 k t819 t826 t827 t834 t838 true)) else (numnahlaw06_WettingChronicles.j0 k t819 t826 t827 t834 t838 true)) = some r := by rw [if_pos rfl] at H; exact H
        clear H
        have H := H1
        clear H1
        by_cases c29 : t843 = t838
        · rw [if_pos c29] at H
          have c29b0 : (t843 == t838) = true := beq_iff_eq.mpr c29
          have c29b1 : (t843 != t838) = false := bne_eq_false_iff_eq.mpr c29
          clear c29
          (first | rw [c29b0] | (simp only [i64_w, i32_w]; rw [c29b0]) | skip)
          by_cases c30 : t823 = 0
          · rw [if_pos c30] at H
            have c30b0 : (t823 == 0) = true := beq_iff_eq.mpr c30
            have c30b1 : (t823 != 0) = false := bne_eq_false_iff_eq.mpr c30
            clear c30
            replace H := Option.bind_eq_some_iff.mp H
            obtain ⟨t845, A310, H⟩ := H
            replace H : ((numnahref06_Fort.f k t834 t845).bind fun t846 => (if (t830 != t846) = true then (numnahlaw06_WettingChronicles.j0 k t819 t826 t827 t834 t838 true) else (numnahlaw06_WettingChronicles.j0 k t819 t826 t827 t834 t838 (t831 != 0)))) = some r := H
            have A31 := Aside0.mk A310
            clear A310
            replace H := Option.bind_eq_some_iff.mp H
            obtain ⟨t846, A320, H⟩ := H
            replace H : (if (t830 != t846) = true then (numnahlaw06_WettingChronicles.j0 k t819 t826 t827 t834 t838 true) else (numnahlaw06_WettingChronicles.j0 k t819 t826 t827 t834 t838 (t831 != 0))) = some r := H
            have A32 := Aside0.mk A320
            clear A320
            by_cases c33 : (t830 != t846) = true
            · rw [if_pos c33] at H
              have c33b0 : (t830 != t846) = true := c33
              (try (have c33b1 : decide (t830 = t846) = false := by simpa using c33))
              (try (have c33b2 : (t830 == t846) = false := by simpa using c33))
              (try (have c33b3 : ¬ (t830 = t846) := by simpa using c33))
              clear c33
              have H' := Aside0.mk H
              clear H
              go_wp2_with (first | (go_at_call 32; (with_reducible refine (numnahref06_Set.calls k _ _ t819 t845 _ ?side1 ?side2 A31.out).mono ?_); (case side1 => repeat (first | exact (Kd.R_reads' HO821.out).2.2 | (with_reducible refine Kd.C_alloc ?_ _) | (with_reducible refine Kd.C_drewN ?_ _) | (with_reducible refine Kd.C_drew ?_))); (case side2 => exact (Kd.R_reads' HO821.out).2.1); rintro e w' ⟨rfl, ⟨nd, rfl⟩⟩; (try first | exact ⟨rfl, _, World.drewN_drewN _ _ _⟩ | exact ⟨rfl, _, Eq.trans (World.drewN_drewN _ _ _) (congrArg (World.drewN _) (Nat.add_assoc _ _ _))⟩)) | (go_at_call 55; (with_reducible refine (numnahref06_Fort.calls k _ _ t834 t845 t846 _ ?side1 ?side2 A32.out).mono ?_); (case side1 => repeat (first | exact (Kd.R_reads' HO836.out).2.2 | (with_reducible refine Kd.C_alloc ?_ _) | (with_reducible refine Kd.C_drewN ?_ _) | (with_reducible refine Kd.C_drew ?_))); (case side2 => exact (Kd.R_reads' HO836.out).2.1); rintro e w34 ⟨rfl, hb⟩; have n0_ := Aside0.mk (Kd.R_below (by (with_reducible repeat (first | apply Kd.R_alloc | apply Kd.R_drewN | apply Kd.R_drew)); exact HO818.out) hb); have n1_ := Aside0.mk (Kd.R_below (by (with_reducible repeat (first | apply Kd.R_alloc | apply Kd.R_drewN | apply Kd.R_drew)); exact HO821.out) hb); have n2_ := Aside0.mk (Kd.R_below (by (with_reducible repeat (first | apply Kd.R_alloc | apply Kd.R_drewN | apply Kd.R_drew)); exact HO825.out) hb); have n3_ := Aside0.mk (Kd.S_below (by (with_reducible repeat (first | apply Kd.S_alloc | apply Kd.S_drewN | apply Kd.S_drew)); exact HO829.out) hb); have n4_ := Aside0.mk (Kd.R_below (by (with_reducible repeat (first | apply Kd.R_alloc | apply Kd.R_drewN | apply Kd.R_drew)); exact HO836.out) hb); have n5_ := Aside0.mk (Kd.R_below (by (with_reducible repeat (first | apply Kd.R_alloc | apply Kd.R_drewN | apply Kd.R_drew)); exact HO841.out) hb); have n6_ := Aside0.mk (below_step (by repeat (first | (with_reducible first | exact HB.out | apply below_alloc | apply pw_below_drewN | apply below_drew1) | exact HB.out)) hb); clear HO818; clear HO821; clear HO825; clear HO829; clear HO836; clear HO841; clear HB; have HO818 := n0_; have HO821 := n1_; have HO825 := n2_; have HO829 := n3_; have HO836 := n4_; have HO841 := n5_; have HB := n6_; clear n0_ n1_ n2_ n3_ n4_ n5_ n6_; (try clear hb); (try clear hb2); (try clear hk); (try clear hi)))
              go_meet
              case rel => exact ⟨_, (true), (by first | rfl | (simp; done) | (simp [*]; done)), H', ⟨by first | omega | exact Nat.le_refl _⟩, ⟨by (with_reducible repeat (first | apply Kd.R_alloc | apply Kd.R_drewN | apply Kd.R_drew)); exact Kd.R_mono HO821.out (fun _ hk => hk.1.2)⟩, ⟨by (with_reducible repeat (first | apply Kd.S_alloc | apply Kd.S_drewN | apply Kd.S_drew)); exact Kd.S_mono HO829.out (fun _ hk => ⟨hk.1.1.2, hk.1.2⟩)⟩, ⟨by (with_reducible repeat (first | apply Kd.R_alloc | apply Kd.R_drewN | apply Kd.R_drew)); exact Kd.R_mono HO836.out (fun _ hk => hk.1.2)⟩, ⟨by repeat (first | (with_reducible first | exact HB.out | apply below_alloc | apply pw_below_drewN | apply below_drew1) | exact HB.out)⟩⟩
            · rw [if_neg c33] at H
              have c33b0 : (t830 != t846) = false := by simpa using c33
              (try (have c33b1 : decide (t830 = t846) = true := by simpa using c33))
              (try (have c33b2 : (t830 == t846) = true := by simpa using c33))
              clear c33
              have H' := Aside0.mk H
              clear H
              go_wp2_with (first | (go_at_call 32; (with_reducible refine (numnahref06_Set.calls k _ _ t819 t845 _ ?side1 ?side2 A31.out).mono ?_); (case side1 => repeat (first | exact (Kd.R_reads' HO821.out).2.2 | (with_reducible refine Kd.C_alloc ?_ _) | (with_reducible refine Kd.C_drewN ?_ _) | (with_reducible refine Kd.C_drew ?_))); (case side2 => exact (Kd.R_reads' HO821.out).2.1); rintro e w' ⟨rfl, ⟨nd, rfl⟩⟩; (try first | exact ⟨rfl, _, World.drewN_drewN _ _ _⟩ | exact ⟨rfl, _, Eq.trans (World.drewN_drewN _ _ _) (congrArg (World.drewN _) (Nat.add_assoc _ _ _))⟩)) | (go_at_call 55; (with_reducible refine (numnahref06_Fort.calls k _ _ t834 t845 t846 _ ?side1 ?side2 A32.out).mono ?_); (case side1 => repeat (first | exact (Kd.R_reads' HO836.out).2.2 | (with_reducible refine Kd.C_alloc ?_ _) | (with_reducible refine Kd.C_drewN ?_ _) | (with_reducible refine Kd.C_drew ?_))); (case side2 => exact (Kd.R_reads' HO836.out).2.1); rintro e w35 ⟨rfl, hb⟩; have n0_ := Aside0.mk (Kd.R_below (by (with_reducible repeat (first | apply Kd.R_alloc | apply Kd.R_drewN | apply Kd.R_drew)); exact HO818.out) hb); have n1_ := Aside0.mk (Kd.R_below (by (with_reducible repeat (first | apply Kd.R_alloc | apply Kd.R_drewN | apply Kd.R_drew)); exact HO821.out) hb); have n2_ := Aside0.mk (Kd.R_below (by (with_reducible repeat (first | apply Kd.R_alloc | apply Kd.R_drewN | apply Kd.R_drew)); exact HO825.out) hb); have n3_ := Aside0.mk (Kd.S_below (by (with_reducible repeat (first | apply Kd.S_alloc | apply Kd.S_drewN | apply Kd.S_drew)); exact HO829.out) hb); have n4_ := Aside0.mk (Kd.R_below (by (with_reducible repeat (first | apply Kd.R_alloc | apply Kd.R_drewN | apply Kd.R_drew)); exact HO836.out) hb); have n5_ := Aside0.mk (Kd.R_below (by (with_reducible repeat (first | apply Kd.R_alloc | apply Kd.R_drewN | apply Kd.R_drew)); exact HO841.out) hb); have n6_ := Aside0.mk (below_step (by repeat (first | (with_reducible first | exact HB.out | apply below_alloc | apply pw_below_drewN | apply below_drew1) | exact HB.out)) hb); clear HO818; clear HO821; clear HO825; clear HO829; clear HO836; clear HO841; clear HB; have HO818 := n0_; have HO821 := n1_; have HO825 := n2_; have HO829 := n3_; have HO836 := n4_; have HO841 := n5_; have HB := n6_; clear n0_ n1_ n2_ n3_ n4_ n5_ n6_; (try clear hb); (try clear hb2); (try clear hk); (try clear hi)))
              go_meet
              case rel => exact ⟨_, ((t831 != 0)), (by first | rfl | (simp; done) | (simp [*]; done)), H', ⟨by first | omega | exact Nat.le_refl _⟩, ⟨by (with_reducible repeat (first | apply Kd.R_alloc | apply Kd.R_drewN | apply Kd.R_drew)); exact Kd.R_mono HO821.out (fun _ hk => hk.1.2)⟩, ⟨by (with_reducible repeat (first | apply Kd.S_alloc | apply Kd.S_drewN | apply Kd.S_drew)); exact Kd.S_mono HO829.out (fun _ hk => ⟨hk.1.1.2, hk.1.2⟩)⟩, ⟨by (with_reducible repeat (first | apply Kd.R_alloc | apply Kd.R_drewN | apply Kd.R_drew)); exact Kd.R_mono HO836.out (fun _ hk => hk.1.2)⟩, ⟨by repeat (first | (with_reducible first | exact HB.out | apply below_alloc | apply pw_below_drewN | apply below_drew1) | exact HB.out)⟩⟩
          · rw [if_neg c30] at H
            have c30b0 : (t823 == 0) = false := beq_eq_false_iff_ne.mpr c30
            have c30b1 : (t823 != 0) = true := bne_iff_ne.mpr c30
            have H' := Aside0.mk H
            clear H
            go_wp2
            go_meet
            case rel => exact ⟨_, (true), (by first | rfl | (simp; done) | (simp [*]; done)), H', ⟨by first | omega | exact Nat.le_refl _⟩, ⟨by (with_reducible repeat (first | apply Kd.R_alloc | apply Kd.R_drewN | apply Kd.R_drew)); exact Kd.R_mono HO821.out (fun _ hk => hk.1.2)⟩, ⟨by (with_reducible repeat (first | apply Kd.S_alloc | apply Kd.S_drewN | apply Kd.S_drew)); exact Kd.S_mono HO829.out (fun _ hk => ⟨hk.1.1.2, hk.1.2⟩)⟩, ⟨by (with_reducible repeat (first | apply Kd.R_alloc | apply Kd.R_drewN | apply Kd.R_drew)); exact Kd.R_mono HO836.out (fun _ hk => hk.1.2)⟩, ⟨by repeat (first | (with_reducible first | exact HB.out | apply below_alloc | apply pw_below_drewN | apply below_drew1) | exact HB.out)⟩⟩
        · rw [if_neg c29] at H
          have c29b0 : (t843 == t838) = false := beq_eq_false_iff_ne.mpr c29
          have c29b1 : (t843 != t838) = true := bne_iff_ne.mpr c29
          (first | rw [c29b0] | (simp only [i64_w, i32_w]; rw [c29b0]) | skip)
          have H' := Aside0.mk H
          clear H
          go_wp2
          go_meet
          case rel => exact ⟨_, (true), (by first | rfl | (simp; done) | (simp [*]; done)), H', ⟨by first | omega | exact Nat.le_refl _⟩, ⟨by (with_reducible repeat (first | apply Kd.R_alloc | apply Kd.R_drewN | apply Kd.R_drew)); exact Kd.R_mono HO821.out (fun _ hk => hk.1.2)⟩, ⟨by (with_reducible repeat (first | apply Kd.S_alloc | apply Kd.S_drewN | apply Kd.S_drew)); exact Kd.S_mono HO829.out (fun _ hk => ⟨hk.1.1.2, hk.1.2⟩)⟩, ⟨by (with_reducible repeat (first | apply Kd.R_alloc | apply Kd.R_drewN | apply Kd.R_drew)); exact Kd.R_mono HO836.out (fun _ hk => hk.1.2)⟩, ⟨by repeat (first | (with_reducible first | exact HB.out | apply below_alloc | apply pw_below_drewN | apply below_drew1) | exact HB.out)⟩⟩
      · replace c28 := Bool.eq_false_iff.mpr c28
        subst c28
        have H1 : (numnahlaw06_WettingChronicles.j0 k t819 t826 t827 t834 t838 true) = some r := by rw [if_neg (show ¬ (false = true) by decide)] at H; exact H
        clear H
        have H := H1
        clear H1
        have H' := Aside0.mk H
        clear H
        go_wp2
        go_meet
        case rel => exact ⟨_, (true), (by first | rfl | (simp; done) | (simp [*]; done)), H', ⟨by first | omega | exact Nat.le_refl _⟩, ⟨by (with_reducible repeat (first | apply Kd.R_alloc | apply Kd.R_drewN | apply Kd.R_drew)); exact Kd.R_mono HO821.out (fun _ hk => hk.1.2)⟩, ⟨by (with_reducible repeat (first | apply Kd.S_alloc | apply Kd.S_drewN | apply Kd.S_drew)); exact Kd.S_mono HO829.out (fun _ hk => ⟨hk.1.1.2, hk.1.2⟩)⟩, ⟨by (with_reducible repeat (first | apply Kd.R_alloc | apply Kd.R_drewN | apply Kd.R_drew)); exact Kd.R_mono HO836.out (fun _ hk => hk.1.2)⟩, ⟨by repeat (first | (with_reducible first | exact HB.out | apply below_alloc | apply pw_below_drewN | apply below_drew1) | exact HB.out)⟩⟩
    case rest =>
      clear HC16
      try clear c1
      try clear c2
      try clear p2
      try clear c3
      try clear c10
      try clear c16
      try clear c28
      try clear c29
      try clear c29b0
      try clear c29b1
      try clear c30
      try clear c30b0
      try clear c30b1
      try clear c33
      try clear c33b0
      try clear c33b1
      try clear c33b2
      obtain ⟨kq, x119_15, rfl, HA, HJ15, HO_8, HO_11, HO_15, HB⟩ := hcut
      cases kq with
      | zero => exact absurd HA.out (by simp [numnahlaw06_WettingChronicles.j0])
      | succ kj15 =>
        have H := HA.out
        clear HA
        simp only [numnahlaw06_WettingChronicles.j0] at H
        by_cases c36 : x119_15 = true
        · subst c36
          have H1 : (some false) = some r := by rw [if_pos rfl] at H; exact H
          clear H
          have H := H1
          clear H1
          obtain rfl := Option.some.inj H
          go_wp2
          go_ret
          exact ⟨by first | rfl | (simp [errW_none, errW_some] <;> rfl) | (simp [*, errW_none, errW_some] <;> rfl), by repeat (first | (with_reducible first | exact HB.out | apply below_alloc | apply pw_below_drewN | apply below_drew1) | exact HB.out)⟩
        · replace c36 := Bool.eq_false_iff.mpr c36
          subst c36
          have H1 : ((numnahref06_All.f t834).bind fun t847 => (if t838 = t847 then ((numnahref06_Set.f kj15 t819).bind fun t849 => ((numnahref06_Chains.f kj15 t834 t849).bind fun t850 => (if (t826.length : Int) = (t850.length : Int) then (numnahlaw06_WettingChronicles.j1 kj15 t826 t850 (t827 != 0)) else (numnahlaw06_WettingChronicles.j1 kj15 t826 t850 true)))) else (if (t826.length : Int) = 0 then (if t827 = 6 then ((numnahlaw06_awake.f).bind fun t848 => (some t848)) else (some false)) else (some false)))) = some r := by rw [if_neg (show ¬ (false = true) by decide)] at H; exact H
          clear H
          have H := H1
          clear H1
          replace H := Option.bind_eq_some_iff.mp H
          obtain ⟨t847, A370, H⟩ := H
          replace H : (if t838 = t847 then ((numnahref06_Set.f kj15 t819).bind fun t849 => ((numnahref06_Chains.f kj15 t834 t849).bind fun t850 => (if (t826.length : Int) = (t850.length : Int) then (numnahlaw06_WettingChronicles.j1 kj15 t826 t850 (t827 != 0)) else (numnahlaw06_WettingChronicles.j1 kj15 t826 t850 true)))) else (if (t826.length : Int) = 0 then (if t827 = 6 then ((numnahlaw06_awake.f).bind fun t848 => (some t848)) else (some false)) else (some false))) = some r := H
          have A37 := Aside0.mk A370
          clear A370
          by_cases c38 : t838 = t847
          · rw [if_pos c38] at H
            have c38b0 : (t838 == t847) = true := beq_iff_eq.mpr c38
            have c38b1 : (t838 != t847) = false := bne_eq_false_iff_eq.mpr c38
            clear c38
            replace H := Option.bind_eq_some_iff.mp H
            obtain ⟨t849, A390, H⟩ := H
            replace H : ((numnahref06_Chains.f kj15 t834 t849).bind fun t850 => (if (t826.length : Int) = (t850.length : Int) then (numnahlaw06_WettingChronicles.j1 kj15 t826 t850 (t827 != 0)) else (numnahlaw06_WettingChronicles.j1 kj15 t826 t850 true))) = some r := H
            have A39 := Aside0.mk A390
            clear A390
            replace H := Option.bind_eq_some_iff.mp H
            obtain ⟨t850, A400, H⟩ := H
            replace H : (if (t826.length : Int) = (t850.length : Int) then (numnahlaw06_WettingChronicles.j1 kj15 t826 t850 (t827 != 0)) else (numnahlaw06_WettingChronicles.j1 kj15 t826 t850 true)) = some r := H
            have A40 := Aside0.mk A400
            clear A400
            have HC41 := Aside0.mk H
            clear H
            go_upto_region 15 with (first | (go_at_call 47; (with_reducible refine (numnahref06_All.calls _ _ t834 t847 _ ?side1 ?side2 A37.out).mono ?_); (case side1 => repeat (first | exact (Kd.R_reads' HO_15.out).2.2 | (with_reducible refine Kd.C_alloc ?_ _) | (with_reducible refine Kd.C_drewN ?_ _) | (with_reducible refine Kd.C_drew ?_))); (case side2 => exact (Kd.R_reads' HO_15.out).2.1); rintro e w' ⟨rfl, ⟨nd, rfl⟩⟩; (try first | exact ⟨rfl, _, World.drewN_drewN _ _ _⟩ | exact ⟨rfl, _, Eq.trans (World.drewN_drewN _ _ _) (congrArg (World.drewN _) (Nat.add_assoc _ _ _))⟩)) | (go_at_call 32; (with_reducible refine (numnahref06_Set.calls kj15 _ _ t819 t849 _ ?side1 ?side2 A39.out).mono ?_); (case side1 => repeat (first | exact (Kd.R_reads' HO_8.out).2.2 | (with_reducible refine Kd.C_alloc ?_ _) | (with_reducible refine Kd.C_drewN ?_ _) | (with_reducible refine Kd.C_drew ?_))); (case side2 => exact (Kd.R_reads' HO_8.out).2.1); rintro e w' ⟨rfl, ⟨nd, rfl⟩⟩; (try first | exact ⟨rfl, _, World.drewN_drewN _ _ _⟩ | exact ⟨rfl, _, Eq.trans (World.drewN_drewN _ _ _) (congrArg (World.drewN _) (Nat.add_assoc _ _ _))⟩)) | (go_at_call 56; (with_reducible refine (numnahref06_Chains.calls kj15 _ _ t834 t849 t850 _ ?side1 ?side2 A40.out).mono ?_); (case side1 => repeat (first | exact (Kd.R_reads' HO_15.out).2.2 | (with_reducible refine Kd.C_alloc ?_ _) | (with_reducible refine Kd.C_drewN ?_ _) | (with_reducible refine Kd.C_drew ?_))); (case side2 => exact (Kd.R_reads' HO_15.out).2.1); rintro e w42 ⟨v851, rfl, ho0, hb⟩; have n0_ := Aside0.mk (Kd.R_below (by (with_reducible repeat (first | apply Kd.R_alloc | apply Kd.R_drewN | apply Kd.R_drew)); exact HO_8.out) hb); have n1_ := Aside0.mk (Kd.S_elder' (by (with_reducible repeat (first | apply Kd.S_alloc | apply Kd.S_drewN | apply Kd.S_drew)); exact HO_11.out) (Kd.S_base ho0) hb); have n2_ := Aside0.mk (Kd.R_below (by (with_reducible repeat (first | apply Kd.R_alloc | apply Kd.R_drewN | apply Kd.R_drew)); exact HO_15.out) hb); have n3_ := Aside0.mk (Kd.S_lower (Kd.S_new' (Kd.S_new' (Kd.S_new' ho0 (Kd.R_lt (by (with_reducible repeat (first | apply Kd.R_alloc | apply Kd.R_drewN | apply Kd.R_drew)); exact HO_8.out))) (Kd.S_lt (by (with_reducible repeat (first | apply Kd.S_alloc | apply Kd.S_drewN | apply Kd.S_drew)); exact HO_11.out))) (Kd.R_lt (by (with_reducible repeat (first | apply Kd.R_alloc | apply Kd.R_drewN | apply Kd.R_drew)); exact HO_15.out))) (below_size (by repeat (first | (with_reducible first | exact HB.out | apply below_alloc | apply pw_below_drewN | apply below_drew1) | exact HB.out)))); have n4_ := Aside0.mk (below_step (by repeat (first | (with_reducible first | exact HB.out | apply below_alloc | apply pw_below_drewN | apply below_drew1) | exact HB.out)) hb); clear HO_8; clear HO_11; clear HO_15; clear HB; have HO_8 := n0_; have HO_11 := n1_; have HO_15 := n2_; have HO852 := n3_; have HB := n4_; clear n0_ n1_ n2_ n3_ n4_; (try clear hb); (try clear hb2); (try clear hk); (try clear hi); (try clear ho0)))
            (try simp only [Act.put, List.setIfInBounds_toArray, List.set_cons_zero, List.set_cons_succ])
            go_cut [146] (fun v146 wc => ∃ (kq : Nat) (x146_40 : Bool), v146 = .bool x146_40 ∧ Aside0 (numnahlaw06_WettingChronicles.j1 kq t826 t850 x146_40 = some r) ∧ Aside0 (kq ≤ kj15) ∧ Aside0 (Kd.S (Kd.slice 3 (Kd.int .i64)) 24 wc w.heap.size (fun k_ => some k_ ≠ (v851 : Value).ownBlock) v828 t826) ∧ Aside0 (Kd.S (Kd.slice 3 (Kd.int .i64)) 24 wc w.heap.size (fun k_ => some k_ ≠ (v828 : Value).ownBlock) v851 t850) ∧ Aside0 (Below w.heap.size w wc))
            case first =>
              have H := HC41.out
              clear HC41
              by_cases c43 : (t826.length : Int) = (t850.length : Int)
              · rw [if_pos c43] at H
                have c43b0 : ((t826.length : Int) == (t850.length : Int)) = true := beq_iff_eq.mpr c43
                have c43b1 : ((t826.length : Int) != (t850.length : Int)) = false := bne_eq_false_iff_eq.mpr c43
                have c43b2 : (t826.length == t850.length) = true := by first | simpa using c43 | (simp at c43 ⊢; omega)
                clear c43
                (first | rw [c43b0] | (simp only [i64_w, i32_w]; rw [c43b0]) | skip)
                have H' := Aside0.mk H
                clear H
                obtain ⟨Ao44, co44, eo44⟩ := Kd.S_slice HO_11.out
                subst eo44
                obtain ⟨Ao45, co45, eo45⟩ := Kd.S_slice HO852.out
                subst eo45
                go_wp2
                go_meet
                case rel => exact ⟨_, ((t827 != 0)), (by first | rfl | (simp; done) | (simp [*]; done)), H', ⟨by have := HJ15.out; first | omega | exact Nat.le_refl _⟩, ⟨by (with_reducible repeat (first | apply Kd.S_alloc | apply Kd.S_drewN | apply Kd.S_drew)); exact Kd.S_mono HO_11.out (fun _ hk => hk.2)⟩, ⟨by (with_reducible repeat (first | apply Kd.S_alloc | apply Kd.S_drewN | apply Kd.S_drew)); exact Kd.S_mono HO852.out (fun _ hk => hk.1.2)⟩, ⟨by repeat (first | (with_reducible first | exact HB.out | apply below_alloc | apply pw_below_drewN | apply below_drew1) | exact HB.out)⟩⟩
              · rw [if_neg c43] at H
                have c43b0 : ((t826.length : Int) == (t850.length : Int)) = false := beq_eq_false_iff_ne.mpr c43
                have c43b1 : ((t826.length : Int) != (t850.length : Int)) = true := bne_iff_ne.mpr c43
                have c43b2 : (t826.length == t850.length) = false := by first | simpa using c43 | (simp at c43 ⊢; omega)
                (first | rw [c43b0] | (simp only [i64_w, i32_w]; rw [c43b0]) | skip)
                have H' := Aside0.mk H
                clear H
                obtain ⟨Ao46, co46, eo46⟩ := Kd.S_slice HO_11.out
                subst eo46
                obtain ⟨Ao47, co47, eo47⟩ := Kd.S_slice HO852.out
                subst eo47
                go_wp2
                go_meet
                case rel => exact ⟨_, (true), (by first | rfl | (simp; done) | (simp [*]; done)), H', ⟨by have := HJ15.out; first | omega | exact Nat.le_refl _⟩, ⟨by (with_reducible repeat (first | apply Kd.S_alloc | apply Kd.S_drewN | apply Kd.S_drew)); exact Kd.S_mono HO_11.out (fun _ hk => hk.2)⟩, ⟨by (with_reducible repeat (first | apply Kd.S_alloc | apply Kd.S_drewN | apply Kd.S_drew)); exact Kd.S_mono HO852.out (fun _ hk => hk.1.2)⟩, ⟨by repeat (first | (with_reducible first | exact HB.out | apply below_alloc | apply pw_below_drewN | apply below_drew1) | exact HB.out)⟩⟩
            case rest =>
              clear HC41
              try clear c1
              try clear c2
              try clear p2
              try clear c3
              try clear c4
              try clear c10
              try clear c16
              try clear c28
              try clear c29
              try clear c29b0
              try clear c29b1
              try clear c30
              try clear c30b0
              try clear c30b1
              try clear c33
              try clear c33b0
              try clear c33b1
              try clear c33b2
              try clear c36
              try clear c38
              try clear c38b0
              try clear c38b1
              try clear c43
              try clear c43b0
              try clear c43b1
              try clear c43b2
              try clear p2
              obtain ⟨kq, x146_40, rfl, HA, HJ40, HO_11, HO_20, HB⟩ := hcut
              cases kq with
              | zero => exact absurd HA.out (by simp [numnahlaw06_WettingChronicles.j1])
              | succ kj40 =>
                have H := HA.out
                clear HA
                simp only [numnahlaw06_WettingChronicles.j1] at H
                by_cases c48 : x146_40 = true
                · subst c48
                  have H1 : (some false) = some r := by rw [if_pos rfl] at H; exact H
                  clear H
                  have H := H1
                  clear H1
                  obtain rfl := Option.some.inj H
                  go_wp2
                  go_ret
                  exact ⟨by first | rfl | (simp [errW_none, errW_some] <;> rfl) | (simp [*, errW_none, errW_some] <;> rfl), by repeat (first | (with_reducible first | exact HB.out | apply below_alloc | apply pw_below_drewN | apply below_drew1) | exact HB.out)⟩
                · replace c48 := Bool.eq_false_iff.mpr c48
                  subst c48
                  have H1 : (numnahlaw06_WettingChronicles.l0 kj40 t826 t850 0) = some r := by rw [if_neg (show ¬ (false = true) by decide)] at H; exact H
                  clear H
                  have H := H1
                  clear H1
                  have H' := Aside0.mk H
                  clear H
                  go_wp2
                  go_loopg [21] kj40 (fun kq v21 w' => ∃ (x21_3 : Int), v21 = .int .i64 x21_3 ∧ Aside0 (numnahlaw06_WettingChronicles.l0 kq t826 t850 x21_3 = some r) ∧ Aside0 (kq ≤ kj40) ∧ Aside0 (Kd.S (Kd.slice 3 (Kd.int .i64)) 24 w' w.heap.size (fun k_ => some k_ ≠ (v851 : Value).ownBlock) v828 t826) ∧ Aside0 (Kd.S (Kd.slice 3 (Kd.int .i64)) 24 w' w.heap.size (fun k_ => some k_ ≠ (v828 : Value).ownBlock) v851 t850) ∧ Aside0 (Below w.heap.size w w'))
                  case atStart => exact ⟨(0), (by first | rfl | (simp; done) | (simp [*]; done)), H', ⟨Nat.le_refl _⟩, ⟨by (with_reducible repeat (first | apply Kd.S_alloc | apply Kd.S_drewN | apply Kd.S_drew)); exact HO_11.out⟩, ⟨by (with_reducible repeat (first | apply Kd.S_alloc | apply Kd.S_drewN | apply Kd.S_drew)); exact HO_20.out⟩, ⟨by repeat (first | (with_reducible first | exact HB.out | apply below_alloc | apply pw_below_drewN | apply below_drew1) | exact HB.out)⟩⟩
                  case round =>
                    clear H'
                    try clear c1
                    try clear c2
                    try clear p2
                    try clear c3
                    try clear c4
                    try clear c10
                    try clear c16
                    try clear c28
                    try clear c29
                    try clear c29b0
                    try clear c29b1
                    try clear c30
                    try clear c30b0
                    try clear c30b1
                    try clear c33
                    try clear c33b0
                    try clear c33b1
                    try clear c33b2
                    try clear c36
                    try clear c38
                    try clear c38b0
                    try clear c38b1
                    try clear c43
                    try clear c43b0
                    try clear c43b1
                    try clear c43b2
                    try clear c48
                    try clear p2
                    obtain ⟨x21_3, rfl, HA, HK3, HO_11, HO_20, HB⟩ := hrel
                    cases gk with
                    | zero => exact absurd HA.out (by simp [numnahlaw06_WettingChronicles.l0])
                    | succ k3 =>
                      have H := HA.out
                      clear HA
                      simp only [numnahlaw06_WettingChronicles.l0] at H
                      by_cases c49 : x21_3 < (t826.length : Int)
                      · rw [if_pos c49] at H
                        have c49b0 : decide (x21_3 < (t826.length : Int)) = true := decide_eq_true c49
                        clear c49
                        by_cases c50 : 0 ≤ x21_3
                        · rw [if_pos c50] at H
                          have c50b0 : decide (0 ≤ x21_3) = true := decide_eq_true c50
                          clear c50
                          by_cases c51 : x21_3 < (t850.length : Int)
                          · rw [if_pos c51] at H
                            have c51b0 : decide (x21_3 < (t850.length : Int)) = true := decide_eq_true c51
                            clear c51
                            replace H := Option.bind_eq_some_iff.mp H
                            obtain ⟨t855, A520, H⟩ := H
                            replace H : (if t855 = true then (numnahlaw06_WettingChronicles.l0 k3 t826 t850 (wrap64 (x21_3 + 1))) else (some false)) = some r := H
                            have A52 := Aside0.mk A520
                            clear A520
                            by_cases c53 : t855 = true
                            · subst c53
                              have H1 : (numnahlaw06_WettingChronicles.l0 k3 t826 t850 (wrap64 (x21_3 + 1))) = some r := by rw [if_pos rfl] at H; exact H
                              clear H
                              have H := H1
                              clear H1
                              have H' := Aside0.mk H
                              clear H
                              obtain ⟨Ao54, co54, eo54⟩ := Kd.S_slice HO_11.out
                              subst eo54
                              have p853 : 0 ≤ (x21_3 : Int) := of_decide_eq_true (by first | (with_reducible assumption) | assumption)
                              have q853 : x21_3 < (t826.length : Int) := of_decide_eq_true (by first | (with_reducible assumption) | assumption)
                              obtain ⟨ad853, A853_0, c853_0, e853, hx853_0, hl853_0, hi853_0⟩ := at_L3 (Kd.S_reads' HO_11.out).2.2 x21_3 p853 q853
                              cases e853
                              obtain ⟨ce853, hce853, hMe853, hcc853⟩ := Kd.S_get HO_11.out [] x21_3 p853 (by first | exact q853 | exact of_decide_eq_true (by first | (with_reducible assumption) | assumption) | (have e_ := (Kd.S_reads' HO_11.out).1; omega))
                              obtain ⟨ve853_0, rfl, ge853_0⟩ := hMe853
                              have hv853_0 := hcc853 0 _ rfl
                              rw [Nat.add_zero, show ((Kd.slice 3 (Kd.int .i64))).sz = 1 from rfl, Nat.mul_one] at hv853_0
                              replace hv853_0 := Option.some.inj (hv853_0.symm.trans hx853_0)
                              rw [hv853_0] at ge853_0
                              have HL853_0 := Aside0.mk (show Kd.R (Kd.int .i64) 3 _ _ _ _ (rd_L3 t826 x21_3) from ge853_0)
                              clear hv853_0 ge853_0
                              clear hcc853 hce853
                              have HR853_0 := Aside0.mk hi853_0
                              have HC853_0 := Aside0.mk hl853_0
                              clear hi853_0 hl853_0
                              replace p853 := eq_true p853
                              replace q853 := eq_true q853
                              obtain ⟨Ao55, co55, eo55⟩ := Kd.S_slice HO_20.out
                              subst eo55
                              have p854 : 0 ≤ (x21_3 : Int) := of_decide_eq_true (by first | (with_reducible assumption) | assumption)
                              have q854 : x21_3 < (t850.length : Int) := of_decide_eq_true (by first | (with_reducible assumption) | assumption)
                              obtain ⟨ad854, A854_0, c854_0, e854, hx854_0, hl854_0, hi854_0⟩ := at_L3 (Kd.S_reads' HO_20.out).2.2 x21_3 p854 q854
                              cases e854
                              obtain ⟨ce854, hce854, hMe854, hcc854⟩ := Kd.S_get HO_20.out [] x21_3 p854 (by first | exact q854 | exact of_decide_eq_true (by first | (with_reducible assumption) | assumption) | (have e_ := (Kd.S_reads' HO_20.out).1; omega))
                              obtain ⟨ve854_0, rfl, ge854_0⟩ := hMe854
                              have hv854_0 := hcc854 0 _ rfl
                              rw [Nat.add_zero, show ((Kd.slice 3 (Kd.int .i64))).sz = 1 from rfl, Nat.mul_one] at hv854_0
                              replace hv854_0 := Option.some.inj (hv854_0.symm.trans hx854_0)
                              rw [hv854_0] at ge854_0
                              have HL854_0 := Aside0.mk (show Kd.R (Kd.int .i64) 3 _ _ _ _ (rd_L3 t850 x21_3) from ge854_0)
                              clear hv854_0 ge854_0
                              clear hcc854 hce854
                              have HR854_0 := Aside0.mk hi854_0
                              have HC854_0 := Aside0.mk hl854_0
                              clear hi854_0 hl854_0
                              replace p854 := eq_true p854
                              replace q854 := eq_true q854
                              go_wp2_with (fail)
                              repeat (go_quiet (first | (go_at_call 24; (with_reducible refine (numnahlaw06_ints.calls k3 _ _ (rd_L3 t826 x21_3) _ _ (rd_L3 t850 x21_3) true _ ?side1 ?side2 ?side3 ?side4 A52.out).mono ?_); (case side1 => repeat (first | exact (by repeat (first | (with_reducible exact HR853_0.out) | (with_reducible refine Kd.C_alloc ?_ _) | (with_reducible refine Kd.C_drewN ?_ _) | (with_reducible refine Kd.C_drew ?_) | exact HR853_0.out)) | (with_reducible refine Kd.C_alloc ?_ _) | (with_reducible refine Kd.C_drewN ?_ _) | (with_reducible refine Kd.C_drew ?_))); (case side2 => exact HC853_0.out); (case side3 => repeat (first | exact (by repeat (first | (with_reducible exact HR854_0.out) | (with_reducible refine Kd.C_alloc ?_ _) | (with_reducible refine Kd.C_drewN ?_ _) | (with_reducible refine Kd.C_drew ?_) | exact HR854_0.out)) | (with_reducible refine Kd.C_alloc ?_ _) | (with_reducible refine Kd.C_drewN ?_ _) | (with_reducible refine Kd.C_drew ?_))); (case side4 => exact HC854_0.out); rintro e w' ⟨rfl, ⟨nd, rfl⟩⟩; (try first | exact ⟨rfl, _, World.drewN_drewN _ _ _⟩ | exact ⟨rfl, _, Eq.trans (World.drewN_drewN _ _ _) (congrArg (World.drewN _) (Nat.add_assoc _ _ _))⟩))); try go_wp2_with (fail))
                              go_roundg k3
                              case measure => have := HJ15.out; have := HJ40.out; have := HK3.out; omega
                              case rel => exact ⟨(wrap64 (x21_3 + 1)), (by first | rfl | (simp; done) | (simp [*]; done)), H', ⟨by have := HJ15.out; have := HJ40.out; have := HK3.out; omega⟩, ⟨by (with_reducible repeat (first | apply Kd.S_alloc | apply Kd.S_drewN | apply Kd.S_drew)); exact HO_11.out⟩, ⟨by (with_reducible repeat (first | apply Kd.S_alloc | apply Kd.S_drewN | apply Kd.S_drew)); exact HO_20.out⟩, ⟨by repeat (first | (with_reducible first | exact HB.out | apply below_alloc | apply pw_below_drewN | apply below_drew1) | exact HB.out)⟩⟩
                            · replace c53 := Bool.eq_false_iff.mpr c53
                              subst c53
                              have H1 : (some false) = some r := by rw [if_neg (show ¬ (false = true) by decide)] at H; exact H
                              clear H
                              have H := H1
                              clear H1
                              obtain rfl := Option.some.inj H
                              obtain ⟨Ao56, co56, eo56⟩ := Kd.S_slice HO_11.out
                              subst eo56
                              have p853 : 0 ≤ (x21_3 : Int) := of_decide_eq_true (by first | (with_reducible assumption) | assumption)
                              have q853 : x21_3 < (t826.length : Int) := of_decide_eq_true (by first | (with_reducible assumption) | assumption)
                              obtain ⟨ad853, A853_0, c853_0, e853, hx853_0, hl853_0, hi853_0⟩ := at_L3 (Kd.S_reads' HO_11.out).2.2 x21_3 p853 q853
                              cases e853
                              obtain ⟨ce853, hce853, hMe853, hcc853⟩ := Kd.S_get HO_11.out [] x21_3 p853 (by first | exact q853 | exact of_decide_eq_true (by first | (with_reducible assumption) | assumption) | (have e_ := (Kd.S_reads' HO_11.out).1; omega))
                              obtain ⟨ve853_0, rfl, ge853_0⟩ := hMe853
                              have hv853_0 := hcc853 0 _ rfl
                              rw [Nat.add_zero, show ((Kd.slice 3 (Kd.int .i64))).sz = 1 from rfl, Nat.mul_one] at hv853_0
                              replace hv853_0 := Option.some.inj (hv853_0.symm.trans hx853_0)
                              rw [hv853_0] at ge853_0
                              have HL853_0 := Aside0.mk (show Kd.R (Kd.int .i64) 3 _ _ _ _ (rd_L3 t826 x21_3) from ge853_0)
                              clear hv853_0 ge853_0
                              clear hcc853 hce853
                              have HR853_0 := Aside0.mk hi853_0
                              have HC853_0 := Aside0.mk hl853_0
                              clear hi853_0 hl853_0
                              replace p853 := eq_true p853
                              replace q853 := eq_true q853
                              obtain ⟨Ao57, co57, eo57⟩ := Kd.S_slice HO_20.out
                              subst eo57
                              have p854 : 0 ≤ (x21_3 : Int) := of_decide_eq_true (by first | (with_reducible assumption) | assumption)
                              have q854 : x21_3 < (t850.length : Int) := of_decide_eq_true (by first | (with_reducible assumption) | assumption)
                              obtain ⟨ad854, A854_0, c854_0, e854, hx854_0, hl854_0, hi854_0⟩ := at_L3 (Kd.S_reads' HO_20.out).2.2 x21_3 p854 q854
                              cases e854
                              obtain ⟨ce854, hce854, hMe854, hcc854⟩ := Kd.S_get HO_20.out [] x21_3 p854 (by first | exact q854 | exact of_decide_eq_true (by first | (with_reducible assumption) | assumption) | (have e_ := (Kd.S_reads' HO_20.out).1; omega))
                              obtain ⟨ve854_0, rfl, ge854_0⟩ := hMe854
                              have hv854_0 := hcc854 0 _ rfl
                              rw [Nat.add_zero, show ((Kd.slice 3 (Kd.int .i64))).sz = 1 from rfl, Nat.mul_one] at hv854_0
                              replace hv854_0 := Option.some.inj (hv854_0.symm.trans hx854_0)
                              rw [hv854_0] at ge854_0
                              have HL854_0 := Aside0.mk (show Kd.R (Kd.int .i64) 3 _ _ _ _ (rd_L3 t850 x21_3) from ge854_0)
                              clear hv854_0 ge854_0
                              clear hcc854 hce854
                              have HR854_0 := Aside0.mk hi854_0
                              have HC854_0 := Aside0.mk hl854_0
                              clear hi854_0 hl854_0
                              replace p854 := eq_true p854
                              replace q854 := eq_true q854
                              go_wp2_with (fail)
                              repeat (go_quiet (first | (go_at_call 24; (with_reducible refine (numnahlaw06_ints.calls k3 _ _ (rd_L3 t826 x21_3) _ _ (rd_L3 t850 x21_3) false _ ?side1 ?side2 ?side3 ?side4 A52.out).mono ?_); (case side1 => repeat (first | exact (by repeat (first | (with_reducible exact HR853_0.out) | (with_reducible refine Kd.C_alloc ?_ _) | (with_reducible refine Kd.C_drewN ?_ _) | (with_reducible refine Kd.C_drew ?_) | exact HR853_0.out)) | (with_reducible refine Kd.C_alloc ?_ _) | (with_reducible refine Kd.C_drewN ?_ _) | (with_reducible refine Kd.C_drew ?_))); (case side2 => exact HC853_0.out); (case side3 => repeat (first | exact (by repeat (first | (with_reducible exact HR854_0.out) | (with_reducible refine Kd.C_alloc ?_ _) | (with_reducible refine Kd.C_drewN ?_ _) | (with_reducible refine Kd.C_drew ?_) | exact HR854_0.out)) | (with_reducible refine Kd.C_alloc ?_ _) | (with_reducible refine Kd.C_drewN ?_ _) | (with_reducible refine Kd.C_drew ?_))); (case side4 => exact HC854_0.out); rintro e w' ⟨rfl, ⟨nd, rfl⟩⟩; (try first | exact ⟨rfl, _, World.drewN_drewN _ _ _⟩ | exact ⟨rfl, _, Eq.trans (World.drewN_drewN _ _ _) (congrArg (World.drewN _) (Nat.add_assoc _ _ _))⟩))); try go_wp2_with (fail))
                              go_ret
                              exact ⟨by first | rfl | (simp [errW_none, errW_some] <;> rfl) | (simp [*, errW_none, errW_some] <;> rfl), by repeat (first | (with_reducible first | exact HB.out | apply below_alloc | apply pw_below_drewN | apply below_drew1) | exact HB.out)⟩
                          · rw [if_neg c51] at H
                            exact absurd H (by simp)
                        · rw [if_neg c50] at H
                          exact absurd H (by simp)
                      · rw [if_neg c49] at H
                        have c49b0 : decide (x21_3 < (t826.length : Int)) = false := decide_eq_false c49
                        clear c49
                        replace H := Option.bind_eq_some_iff.mp H
                        obtain ⟨t856, A580, H⟩ := H
                        replace H : (some t856) = some r := H
                        have A58 := Aside0.mk A580
                        clear A580
                        obtain rfl := Option.some.inj H
                        obtain ⟨Ao59, co59, eo59⟩ := Kd.S_slice HO_11.out
                        subst eo59
                        go_wp2_with (first | (go_at_call 21; (with_reducible refine (numnahlaw06_awake.calls  t856 _ A58.out ?sideT).mono ?_); (case sideT => exact tab_of (by repeat (first | (with_reducible first | exact HB.out | apply below_alloc | apply pw_below_drewN | apply below_drew1) | exact HB.out)) HT.out); rintro e w60 ⟨rfl, hb⟩; have n0_ := Aside0.mk (Kd.S_below (by (with_reducible repeat (first | apply Kd.S_alloc | apply Kd.S_drewN | apply Kd.S_drew)); exact HO_11.out) hb); have n1_ := Aside0.mk (Kd.S_below (by (with_reducible repeat (first | apply Kd.S_alloc | apply Kd.S_drewN | apply Kd.S_drew)); exact HO_20.out) hb); have n2_ := Aside0.mk (below_step (by repeat (first | (with_reducible first | exact HB.out | apply below_alloc | apply pw_below_drewN | apply below_drew1) | exact HB.out)) hb); clear HO_11; clear HO_20; clear HB; have HO_11 := n0_; have HO_20 := n1_; have HB := n2_; clear n0_ n1_ n2_; (try clear hb); (try clear hb2); (try clear hk); (try clear hi)))
                        go_ret
                        exact ⟨by first | rfl | (simp [errW_none, errW_some] <;> rfl) | (simp [*, errW_none, errW_some] <;> rfl), by repeat (first | (with_reducible first | exact HB.out | apply below_alloc | apply pw_below_drewN | apply below_drew1) | exact HB.out)⟩
          · rw [if_neg c38] at H
            have c38b0 : (t838 == t847) = false := beq_eq_false_iff_ne.mpr c38
            have c38b1 : (t838 != t847) = true := bne_iff_ne.mpr c38
            by_cases c61 : (t826.length : Int) = 0
            · rw [if_pos c61] at H
              have c61b0 : ((t826.length : Int) == 0) = true := beq_iff_eq.mpr c61
              have c61b1 : ((t826.length : Int) != 0) = false := bne_eq_false_iff_eq.mpr c61
              clear c61
              by_cases c62 : t827 = 6
              · rw [if_pos c62] at H
                have c62b0 : (t827 == 6) = true := beq_iff_eq.mpr c62
                have c62b1 : (t827 != 6) = false := bne_eq_false_iff_eq.mpr c62
                clear c62
                replace H := Option.bind_eq_some_iff.mp H
                obtain ⟨t848, A630, H⟩ := H
                replace H : (some t848) = some r := H
                have A63 := Aside0.mk A630
                clear A630
                obtain rfl := Option.some.inj H
                go_wp2_with (first | (go_at_call 47; (with_reducible refine (numnahref06_All.calls _ _ t834 t847 _ ?side1 ?side2 A37.out).mono ?_); (case side1 => repeat (first | exact (Kd.R_reads' HO_15.out).2.2 | (with_reducible refine Kd.C_alloc ?_ _) | (with_reducible refine Kd.C_drewN ?_ _) | (with_reducible refine Kd.C_drew ?_))); (case side2 => exact (Kd.R_reads' HO_15.out).2.1); rintro e w' ⟨rfl, ⟨nd, rfl⟩⟩; (try first | exact ⟨rfl, _, World.drewN_drewN _ _ _⟩ | exact ⟨rfl, _, Eq.trans (World.drewN_drewN _ _ _) (congrArg (World.drewN _) (Nat.add_assoc _ _ _))⟩); obtain ⟨Ao64, co64, eo64⟩ := Kd.S_slice HO_11.out; subst eo64) | (go_at_call 21; (with_reducible refine (numnahlaw06_awake.calls  t848 _ A63.out ?sideT).mono ?_); (case sideT => exact tab_of (by repeat (first | (with_reducible first | exact HB.out | apply below_alloc | apply pw_below_drewN | apply below_drew1) | exact HB.out)) HT.out); rintro e w65 ⟨rfl, hb⟩; have n0_ := Aside0.mk (Kd.R_below (by (with_reducible repeat (first | apply Kd.R_alloc | apply Kd.R_drewN | apply Kd.R_drew)); exact HO_8.out) hb); have n1_ := Aside0.mk (Kd.S_below (by (with_reducible repeat (first | apply Kd.S_alloc | apply Kd.S_drewN | apply Kd.S_drew)); exact HO_11.out) hb); have n2_ := Aside0.mk (Kd.R_below (by (with_reducible repeat (first | apply Kd.R_alloc | apply Kd.R_drewN | apply Kd.R_drew)); exact HO_15.out) hb); have n3_ := Aside0.mk (below_step (by repeat (first | (with_reducible first | exact HB.out | apply below_alloc | apply pw_below_drewN | apply below_drew1) | exact HB.out)) hb); clear HO_8; clear HO_11; clear HO_15; clear HB; have HO_8 := n0_; have HO_11 := n1_; have HO_15 := n2_; have HB := n3_; clear n0_ n1_ n2_ n3_; (try clear hb); (try clear hb2); (try clear hk); (try clear hi)))
                go_ret
                exact ⟨by first | rfl | (simp [errW_none, errW_some] <;> rfl) | (simp [*, errW_none, errW_some] <;> rfl), by repeat (first | (with_reducible first | exact HB.out | apply below_alloc | apply pw_below_drewN | apply below_drew1) | exact HB.out)⟩
              · rw [if_neg c62] at H
                have c62b0 : (t827 == 6) = false := beq_eq_false_iff_ne.mpr c62
                have c62b1 : (t827 != 6) = true := bne_iff_ne.mpr c62
                obtain rfl := Option.some.inj H
                go_wp2_with (first | (go_at_call 47; (with_reducible refine (numnahref06_All.calls _ _ t834 t847 _ ?side1 ?side2 A37.out).mono ?_); (case side1 => repeat (first | exact (Kd.R_reads' HO_15.out).2.2 | (with_reducible refine Kd.C_alloc ?_ _) | (with_reducible refine Kd.C_drewN ?_ _) | (with_reducible refine Kd.C_drew ?_))); (case side2 => exact (Kd.R_reads' HO_15.out).2.1); rintro e w' ⟨rfl, ⟨nd, rfl⟩⟩; (try first | exact ⟨rfl, _, World.drewN_drewN _ _ _⟩ | exact ⟨rfl, _, Eq.trans (World.drewN_drewN _ _ _) (congrArg (World.drewN _) (Nat.add_assoc _ _ _))⟩); obtain ⟨Ao66, co66, eo66⟩ := Kd.S_slice HO_11.out; subst eo66))
                go_ret
                exact ⟨by first | rfl | (simp [errW_none, errW_some] <;> rfl) | (simp [*, errW_none, errW_some] <;> rfl), by repeat (first | (with_reducible first | exact HB.out | apply below_alloc | apply pw_below_drewN | apply below_drew1) | exact HB.out)⟩
            · rw [if_neg c61] at H
              have c61b0 : ((t826.length : Int) == 0) = false := beq_eq_false_iff_ne.mpr c61
              have c61b1 : ((t826.length : Int) != 0) = true := bne_iff_ne.mpr c61
              have c61b2 : ¬ (t826 = []) := fun h_ => c61 (by rw [h_]; rfl)
              obtain rfl := Option.some.inj H
              go_wp2_with (first | (go_at_call 47; (with_reducible refine (numnahref06_All.calls _ _ t834 t847 _ ?side1 ?side2 A37.out).mono ?_); (case side1 => repeat (first | exact (Kd.R_reads' HO_15.out).2.2 | (with_reducible refine Kd.C_alloc ?_ _) | (with_reducible refine Kd.C_drewN ?_ _) | (with_reducible refine Kd.C_drew ?_))); (case side2 => exact (Kd.R_reads' HO_15.out).2.1); rintro e w' ⟨rfl, ⟨nd, rfl⟩⟩; (try first | exact ⟨rfl, _, World.drewN_drewN _ _ _⟩ | exact ⟨rfl, _, Eq.trans (World.drewN_drewN _ _ _) (congrArg (World.drewN _) (Nat.add_assoc _ _ _))⟩); obtain ⟨Ao67, co67, eo67⟩ := Kd.S_slice HO_11.out; subst eo67))
              go_ret
              exact ⟨by first | rfl | (simp [errW_none, errW_some] <;> rfl) | (simp [*, errW_none, errW_some] <;> rfl), by repeat (first | (with_reducible first | exact HB.out | apply below_alloc | apply pw_below_drewN | apply below_drew1) | exact HB.out)⟩
  · replace c10 := Bool.eq_false_iff.mpr c10
    subst c10
    have H1 : (if (t822.length : Int) = 0 then (if t823 = 2 then (if (t826.length : Int) = 0 then (if t827 = 2 then (if t830 = true then (some false) else (if t831 = 2 then ((numnahlaw06_awake.f).bind fun t833 => (some t833)) else (some false))) else (some false)) else (some false)) else (some false)) else (some false)) = some r := by rw [if_neg (show ¬ (false = true) by decide)] at H; exact H
    clear H
    have H := H1
    clear H1
    by_cases c68 : (t822.length : Int) = 0
    · rw [if_pos c68] at H
      have c68b0 : ((t822.length : Int) == 0) = true := beq_iff_eq.mpr c68
      have c68b1 : ((t822.length : Int) != 0) = false := bne_eq_false_iff_eq.mpr c68
      clear c68
      by_cases c69 : t823 = 2
      · rw [if_pos c69] at H
        have c69b0 : (t823 == 2) = true := beq_iff_eq.mpr c69
        have c69b1 : (t823 != 2) = false := bne_eq_false_iff_eq.mpr c69
        clear c69
        by_cases c70 : (t826.length : Int) = 0
        · rw [if_pos c70] at H
          have c70b0 : ((t826.length : Int) == 0) = true := beq_iff_eq.mpr c70
          have c70b1 : ((t826.length : Int) != 0) = false := bne_eq_false_iff_eq.mpr c70
          clear c70
          by_cases c71 : t827 = 2
          · rw [if_pos c71] at H
            have c71b0 : (t827 == 2) = true := beq_iff_eq.mpr c71
            have c71b1 : (t827 != 2) = false := bne_eq_false_iff_eq.mpr c71
            clear c71
            by_cases c72 : t830 = true
            · subst c72
              have H1 : (some false) = some r := by rw [if_pos rfl] at H; exact H
              clear H
              have H := H1
              clear H1
              obtain rfl := Option.some.inj H
              go_enter Tryd.func16, Tryd.ntmps16
              go_wp2_with (first | (go_at_call 17; (with_reducible refine (numnahlaw06_pairs.calls _ _ l1 t816 _ ?side1 ?side2 A4.out).mono ?_); (case side1 => repeat (first | exact HR1.out | (with_reducible refine Kd.C_alloc ?_ _) | (with_reducible refine Kd.C_drewN ?_ _) | (with_reducible refine Kd.C_drew ?_))); (case side2 => exact HC1.out); rintro e w73 ⟨v817, rfl, ho0, hb⟩; have n0_ := Aside0.mk (Kd.R_lower ho0 (below_size (by repeat (first | (with_reducible first | exact HB.out | apply below_alloc | apply pw_below_drewN | apply below_drew1) | exact HB.out)))); have n1_ := Aside0.mk (below_step (by repeat (first | (with_reducible first | exact HB.out | apply below_alloc | apply pw_below_drewN | apply below_drew1) | exact HB.out)) hb); clear HB; have HO818 := n0_; have HB := n1_; clear n0_ n1_; (try clear hb); (try clear hb2); (try clear hk); (try clear hi); (try clear ho0)) | (go_at_call 36; (with_reducible refine (numnahlaw06_list.calls _ _ l2 t819 _ ?side1 ?side2 A5.out).mono ?_); (case side1 => repeat (first | exact (Kd.C_below HR2.out HB.out) | (with_reducible refine Kd.C_alloc ?_ _) | (with_reducible refine Kd.C_drewN ?_ _) | (with_reducible refine Kd.C_drew ?_))); (case side2 => exact HC2.out); rintro e w74 ⟨v820, rfl, ho0, hb⟩; have n0_ := Aside0.mk (Kd.R_below (by (with_reducible repeat (first | apply Kd.R_alloc | apply Kd.R_drewN | apply Kd.R_drew)); exact HO818.out) hb); have n1_ := Aside0.mk (Kd.R_lower ho0 (below_size (by repeat (first | (with_reducible first | exact HB.out | apply below_alloc | apply pw_below_drewN | apply below_drew1) | exact HB.out)))); have n2_ := Aside0.mk (below_step (by repeat (first | (with_reducible first | exact HB.out | apply below_alloc | apply pw_below_drewN | apply below_drew1) | exact HB.out)) hb); clear HO818; clear HB; have HO818 := n0_; have HO821 := n1_; have HB := n2_; clear n0_ n1_ n2_; (try clear hb); (try clear hb2); (try clear hk); (try clear hi); (try clear ho0); obtain ⟨Ao75, co75, eo75⟩ := Kd.R_slice HO818.out; subst eo75; obtain ⟨Ao76, co76, eo76⟩ := Kd.R_slice HO821.out; subst eo76) | (go_at_call 54; (with_reducible refine (wetting_Chronicle.calls a0 _ _ t816 _ _ t819 t822 t823 _ ?side1 ?side2 ?side3 ?side4 A6.out ?sideT).mono ?_); (case sideT => exact tab_of (by repeat (first | (with_reducible first | exact HB.out | apply below_alloc | apply pw_below_drewN | apply below_drew1) | exact HB.out)) HT.out); (case side1 => repeat (first | exact (Kd.R_reads' HO818.out).2.2 | (with_reducible refine Kd.C_alloc ?_ _) | (with_reducible refine Kd.C_drewN ?_ _) | (with_reducible refine Kd.C_drew ?_))); (case side2 => exact (Kd.R_reads' HO818.out).2.1); (case side3 => repeat (first | exact (Kd.R_reads' HO821.out).2.2 | (with_reducible refine Kd.C_alloc ?_ _) | (with_reducible refine Kd.C_drewN ?_ _) | (with_reducible refine Kd.C_drew ?_))); (case side4 => exact (Kd.R_reads' HO821.out).2.1); rintro e w77 ⟨v824, rfl, ho0, hb⟩; have n0_ := Aside0.mk (Kd.R_elder' (by (with_reducible repeat (first | apply Kd.R_alloc | apply Kd.R_drewN | apply Kd.R_drew)); exact HO818.out) (Kd.R_base ho0) hb); have n1_ := Aside0.mk (Kd.R_below (by (with_reducible repeat (first | apply Kd.R_alloc | apply Kd.R_drewN | apply Kd.R_drew)); exact HO821.out) hb); have n2_ := Aside0.mk (Kd.R_lower (Kd.R_new' ho0 (Kd.R_lt (by (with_reducible repeat (first | apply Kd.R_alloc | apply Kd.R_drewN | apply Kd.R_drew)); exact HO818.out))) (below_size (by repeat (first | (with_reducible first | exact HB.out | apply below_alloc | apply pw_below_drewN | apply below_drew1) | exact HB.out)))); have n3_ := Aside0.mk (below_step (by repeat (first | (with_reducible first | exact HB.out | apply below_alloc | apply pw_below_drewN | apply below_drew1) | exact HB.out)) hb); clear HO818; clear HO821; clear HB; have HO818 := n0_; have HO821 := n1_; have HO825 := n2_; have HB := n3_; clear n0_ n1_ n2_ n3_; (try clear hb); (try clear hb2); (try clear hk); (try clear hi); (try clear ho0)) | (go_at_call 53; (with_reducible refine (wetting_Chains.calls a0 _ _ t816 _ _ t819 t826 t827 _ ?side1 ?side2 ?side3 ?side4 A7.out ?sideT).mono ?_); (case sideT => exact tab_of (by repeat (first | (with_reducible first | exact HB.out | apply below_alloc | apply pw_below_drewN | apply below_drew1) | exact HB.out)) HT.out); (case side1 => repeat (first | exact (Kd.R_reads' HO818.out).2.2 | (with_reducible refine Kd.C_alloc ?_ _) | (with_reducible refine Kd.C_drewN ?_ _) | (with_reducible refine Kd.C_drew ?_))); (case side2 => exact (Kd.R_reads' HO818.out).2.1); (case side3 => repeat (first | exact (Kd.R_reads' HO821.out).2.2 | (with_reducible refine Kd.C_alloc ?_ _) | (with_reducible refine Kd.C_drewN ?_ _) | (with_reducible refine Kd.C_drew ?_))); (case side4 => exact (Kd.R_reads' HO821.out).2.1); rintro e w78 ⟨v828, rfl, ho0, hb⟩; have n0_ := Aside0.mk (Kd.R_below (by (with_reducible repeat (first | apply Kd.R_alloc | apply Kd.R_drewN | apply Kd.R_drew)); exact HO818.out) hb); have n1_ := Aside0.mk (Kd.R_below (by (with_reducible repeat (first | apply Kd.R_alloc | apply Kd.R_drewN | apply Kd.R_drew)); exact HO821.out) hb); have n2_ := Aside0.mk (Kd.R_below (by (with_reducible repeat (first | apply Kd.R_alloc | apply Kd.R_drewN | apply Kd.R_drew)); exact HO825.out) hb); have n3_ := Aside0.mk (Kd.S_lower (Kd.S_new' ho0 (Kd.R_lt (by (with_reducible repeat (first | apply Kd.R_alloc | apply Kd.R_drewN | apply Kd.R_drew)); exact HO821.out))) (below_size (by repeat (first | (with_reducible first | exact HB.out | apply below_alloc | apply pw_below_drewN | apply below_drew1) | exact HB.out)))); have n4_ := Aside0.mk (below_step (by repeat (first | (with_reducible first | exact HB.out | apply below_alloc | apply pw_below_drewN | apply below_drew1) | exact HB.out)) hb); clear HO818; clear HO821; clear HO825; clear HB; have HO818 := n0_; have HO821 := n1_; have HO825 := n2_; have HO829 := n3_; have HB := n4_; clear n0_ n1_ n2_ n3_ n4_; (try clear hb); (try clear hb2); (try clear hk); (try clear hi); (try clear ho0)) | (go_at_call 31; (with_reducible refine (wetting_IsFort.calls a0 _ _ t816 _ _ t819 true t831 _ ?side1 ?side2 ?side3 ?side4 A8.out ?sideT).mono ?_); (case sideT => exact tab_of (by repeat (first | (with_reducible first | exact HB.out | apply below_alloc | apply pw_below_drewN | apply below_drew1) | exact HB.out)) HT.out); (case side1 => repeat (first | exact (Kd.R_reads' HO818.out).2.2 | (with_reducible refine Kd.C_alloc ?_ _) | (with_reducible refine Kd.C_drewN ?_ _) | (with_reducible refine Kd.C_drew ?_))); (case side2 => exact (Kd.R_reads' HO818.out).2.1); (case side3 => repeat (first | exact (Kd.R_reads' HO821.out).2.2 | (with_reducible refine Kd.C_alloc ?_ _) | (with_reducible refine Kd.C_drewN ?_ _) | (with_reducible refine Kd.C_drew ?_))); (case side4 => exact (Kd.R_reads' HO821.out).2.1); rintro e w79 ⟨rfl, hb⟩; have n0_ := Aside0.mk (Kd.R_below (by (with_reducible repeat (first | apply Kd.R_alloc | apply Kd.R_drewN | apply Kd.R_drew)); exact HO818.out) hb); have n1_ := Aside0.mk (Kd.R_below (by (with_reducible repeat (first | apply Kd.R_alloc | apply Kd.R_drewN | apply Kd.R_drew)); exact HO821.out) hb); have n2_ := Aside0.mk (Kd.R_below (by (with_reducible repeat (first | apply Kd.R_alloc | apply Kd.R_drewN | apply Kd.R_drew)); exact HO825.out) hb); have n3_ := Aside0.mk (Kd.S_below (by (with_reducible repeat (first | apply Kd.S_alloc | apply Kd.S_drewN | apply Kd.S_drew)); exact HO829.out) hb); have n4_ := Aside0.mk (below_step (by repeat (first | (with_reducible first | exact HB.out | apply below_alloc | apply pw_below_drewN | apply below_drew1) | exact HB.out)) hb); clear HO818; clear HO821; clear HO825; clear HO829; clear HB; have HO818 := n0_; have HO821 := n1_; have HO825 := n2_; have HO829 := n3_; have HB := n4_; clear n0_ n1_ n2_ n3_ n4_; (try clear hb); (try clear hb2); (try clear hk); (try clear hi)) | (go_at_call 39; (with_reducible refine (numnahlaw06_valid.calls k a0 _ _ t816 _ _ t819 false _ ?side1 ?side2 ?side3 ?side4 A9.out).mono ?_); (case side1 => repeat (first | exact (Kd.R_reads' HO818.out).2.2 | (with_reducible refine Kd.C_alloc ?_ _) | (with_reducible refine Kd.C_drewN ?_ _) | (with_reducible refine Kd.C_drew ?_))); (case side2 => exact (Kd.R_reads' HO818.out).2.1); (case side3 => repeat (first | exact (Kd.R_reads' HO821.out).2.2 | (with_reducible refine Kd.C_alloc ?_ _) | (with_reducible refine Kd.C_drewN ?_ _) | (with_reducible refine Kd.C_drew ?_))); (case side4 => exact (Kd.R_reads' HO821.out).2.1); rintro e w' ⟨rfl, ⟨nd, rfl⟩⟩; (try first | exact ⟨rfl, _, World.drewN_drewN _ _ _⟩ | exact ⟨rfl, _, Eq.trans (World.drewN_drewN _ _ _) (congrArg (World.drewN _) (Nat.add_assoc _ _ _))⟩); obtain ⟨Ao80, co80, eo80⟩ := Kd.R_slice HO825.out; subst eo80; obtain ⟨Ao81, co81, eo81⟩ := Kd.S_slice HO829.out; subst eo81))
              go_ret
              exact ⟨by first | rfl | (simp [errW_none, errW_some] <;> rfl) | (simp [*, errW_none, errW_some] <;> rfl), by repeat (first | (with_reducible first | exact HB.out | apply below_alloc | apply pw_below_drewN | apply below_drew1) | exact HB.out)⟩
            · replace c72 := Bool.eq_false_iff.mpr c72
              subst c72
              have H1 : (if t831 = 2 then ((numnahlaw06_awake.f).bind fun t833 => (some t833)) else (some false)) = some r := by rw [if_neg (show ¬ (false = true) by decide)] at H; exact H
              clear H
              have H := H1
              clear H1
              by_cases c82 : t831 = 2
              · rw [if_pos c82] at H
                have c82b0 : (t831 == 2) = true := beq_iff_eq.mpr c82
                have c82b1 : (t831 != 2) = false := bne_eq_false_iff_eq.mpr c82
                clear c82
                replace H := Option.bind_eq_some_iff.mp H
                obtain ⟨t833, A830, H⟩ := H
                replace H : (some t833) = some r := H
                have A83 := Aside0.mk A830
                clear A830
                obtain rfl := Option.some.inj H
                go_enter Tryd.func16, Tryd.ntmps16
                go_wp2_with (first | (go_at_call 17; (with_reducible refine (numnahlaw06_pairs.calls _ _ l1 t816 _ ?side1 ?side2 A4.out).mono ?_); (case side1 => repeat (first | exact HR1.out | (with_reducible refine Kd.C_alloc ?_ _) | (with_reducible refine Kd.C_drewN ?_ _) | (with_reducible refine Kd.C_drew ?_))); (case side2 => exact HC1.out); rintro e w84 ⟨v817, rfl, ho0, hb⟩; have n0_ := Aside0.mk (Kd.R_lower ho0 (below_size (by repeat (first | (with_reducible first | exact HB.out | apply below_alloc | apply pw_below_drewN | apply below_drew1) | exact HB.out)))); have n1_ := Aside0.mk (below_step (by repeat (first | (with_reducible first | exact HB.out | apply below_alloc | apply pw_below_drewN | apply below_drew1) | exact HB.out)) hb); clear HB; have HO818 := n0_; have HB := n1_; clear n0_ n1_; (try clear hb); (try clear hb2); (try clear hk); (try clear hi); (try clear ho0)) | (go_at_call 36; (with_reducible refine (numnahlaw06_list.calls _ _ l2 t819 _ ?side1 ?side2 A5.out).mono ?_); (case side1 => repeat (first | exact (Kd.C_below HR2.out HB.out) | (with_reducible refine Kd.C_alloc ?_ _) | (with_reducible refine Kd.C_drewN ?_ _) | (with_reducible refine Kd.C_drew ?_))); (case side2 => exact HC2.out); rintro e w85 ⟨v820, rfl, ho0, hb⟩; have n0_ := Aside0.mk (Kd.R_below (by (with_reducible repeat (first | apply Kd.R_alloc | apply Kd.R_drewN | apply Kd.R_drew)); exact HO818.out) hb); have n1_ := Aside0.mk (Kd.R_lower ho0 (below_size (by repeat (first | (with_reducible first | exact HB.out | apply below_alloc | apply pw_below_drewN | apply below_drew1) | exact HB.out)))); have n2_ := Aside0.mk (below_step (by repeat (first | (with_reducible first | exact HB.out | apply below_alloc | apply pw_below_drewN | apply below_drew1) | exact HB.out)) hb); clear HO818; clear HB; have HO818 := n0_; have HO821 := n1_; have HB := n2_; clear n0_ n1_ n2_; (try clear hb); (try clear hb2); (try clear hk); (try clear hi); (try clear ho0); obtain ⟨Ao86, co86, eo86⟩ := Kd.R_slice HO818.out; subst eo86; obtain ⟨Ao87, co87, eo87⟩ := Kd.R_slice HO821.out; subst eo87) | (go_at_call 54; (with_reducible refine (wetting_Chronicle.calls a0 _ _ t816 _ _ t819 t822 t823 _ ?side1 ?side2 ?side3 ?side4 A6.out ?sideT).mono ?_); (case sideT => exact tab_of (by repeat (first | (with_reducible first | exact HB.out | apply below_alloc | apply pw_below_drewN | apply below_drew1) | exact HB.out)) HT.out); (case side1 => repeat (first | exact (Kd.R_reads' HO818.out).2.2 | (with_reducible refine Kd.C_alloc ?_ _) | (with_reducible refine Kd.C_drewN ?_ _) | (with_reducible refine Kd.C_drew ?_))); (case side2 => exact (Kd.R_reads' HO818.out).2.1); (case side3 => repeat (first | exact (Kd.R_reads' HO821.out).2.2 | (with_reducible refine Kd.C_alloc ?_ _) | (with_reducible refine Kd.C_drewN ?_ _) | (with_reducible refine Kd.C_drew ?_))); (case side4 => exact (Kd.R_reads' HO821.out).2.1); rintro e w88 ⟨v824, rfl, ho0, hb⟩; have n0_ := Aside0.mk (Kd.R_elder' (by (with_reducible repeat (first | apply Kd.R_alloc | apply Kd.R_drewN | apply Kd.R_drew)); exact HO818.out) (Kd.R_base ho0) hb); have n1_ := Aside0.mk (Kd.R_below (by (with_reducible repeat (first | apply Kd.R_alloc | apply Kd.R_drewN | apply Kd.R_drew)); exact HO821.out) hb); have n2_ := Aside0.mk (Kd.R_lower (Kd.R_new' ho0 (Kd.R_lt (by (with_reducible repeat (first | apply Kd.R_alloc | apply Kd.R_drewN | apply Kd.R_drew)); exact HO818.out))) (below_size (by repeat (first | (with_reducible first | exact HB.out | apply below_alloc | apply pw_below_drewN | apply below_drew1) | exact HB.out)))); have n3_ := Aside0.mk (below_step (by repeat (first | (with_reducible first | exact HB.out | apply below_alloc | apply pw_below_drewN | apply below_drew1) | exact HB.out)) hb); clear HO818; clear HO821; clear HB; have HO818 := n0_; have HO821 := n1_; have HO825 := n2_; have HB := n3_; clear n0_ n1_ n2_ n3_; (try clear hb); (try clear hb2); (try clear hk); (try clear hi); (try clear ho0)) | (go_at_call 53; (with_reducible refine (wetting_Chains.calls a0 _ _ t816 _ _ t819 t826 t827 _ ?side1 ?side2 ?side3 ?side4 A7.out ?sideT).mono ?_); (case sideT => exact tab_of (by repeat (first | (with_reducible first | exact HB.out | apply below_alloc | apply pw_below_drewN | apply below_drew1) | exact HB.out)) HT.out); (case side1 => repeat (first | exact (Kd.R_reads' HO818.out).2.2 | (with_reducible refine Kd.C_alloc ?_ _) | (with_reducible refine Kd.C_drewN ?_ _) | (with_reducible refine Kd.C_drew ?_))); (case side2 => exact (Kd.R_reads' HO818.out).2.1); (case side3 => repeat (first | exact (Kd.R_reads' HO821.out).2.2 | (with_reducible refine Kd.C_alloc ?_ _) | (with_reducible refine Kd.C_drewN ?_ _) | (with_reducible refine Kd.C_drew ?_))); (case side4 => exact (Kd.R_reads' HO821.out).2.1); rintro e w89 ⟨v828, rfl, ho0, hb⟩; have n0_ := Aside0.mk (Kd.R_below (by (with_reducible repeat (first | apply Kd.R_alloc | apply Kd.R_drewN | apply Kd.R_drew)); exact HO818.out) hb); have n1_ := Aside0.mk (Kd.R_below (by (with_reducible repeat (first | apply Kd.R_alloc | apply Kd.R_drewN | apply Kd.R_drew)); exact HO821.out) hb); have n2_ := Aside0.mk (Kd.R_below (by (with_reducible repeat (first | apply Kd.R_alloc | apply Kd.R_drewN | apply Kd.R_drew)); exact HO825.out) hb); have n3_ := Aside0.mk (Kd.S_lower (Kd.S_new' ho0 (Kd.R_lt (by (with_reducible repeat (first | apply Kd.R_alloc | apply Kd.R_drewN | apply Kd.R_drew)); exact HO821.out))) (below_size (by repeat (first | (with_reducible first | exact HB.out | apply below_alloc | apply pw_below_drewN | apply below_drew1) | exact HB.out)))); have n4_ := Aside0.mk (below_step (by repeat (first | (with_reducible first | exact HB.out | apply below_alloc | apply pw_below_drewN | apply below_drew1) | exact HB.out)) hb); clear HO818; clear HO821; clear HO825; clear HB; have HO818 := n0_; have HO821 := n1_; have HO825 := n2_; have HO829 := n3_; have HB := n4_; clear n0_ n1_ n2_ n3_ n4_; (try clear hb); (try clear hb2); (try clear hk); (try clear hi); (try clear ho0)) | (go_at_call 31; (with_reducible refine (wetting_IsFort.calls a0 _ _ t816 _ _ t819 false t831 _ ?side1 ?side2 ?side3 ?side4 A8.out ?sideT).mono ?_); (case sideT => exact tab_of (by repeat (first | (with_reducible first | exact HB.out | apply below_alloc | apply pw_below_drewN | apply below_drew1) | exact HB.out)) HT.out); (case side1 => repeat (first | exact (Kd.R_reads' HO818.out).2.2 | (with_reducible refine Kd.C_alloc ?_ _) | (with_reducible refine Kd.C_drewN ?_ _) | (with_reducible refine Kd.C_drew ?_))); (case side2 => exact (Kd.R_reads' HO818.out).2.1); (case side3 => repeat (first | exact (Kd.R_reads' HO821.out).2.2 | (with_reducible refine Kd.C_alloc ?_ _) | (with_reducible refine Kd.C_drewN ?_ _) | (with_reducible refine Kd.C_drew ?_))); (case side4 => exact (Kd.R_reads' HO821.out).2.1); rintro e w90 ⟨rfl, hb⟩; have n0_ := Aside0.mk (Kd.R_below (by (with_reducible repeat (first | apply Kd.R_alloc | apply Kd.R_drewN | apply Kd.R_drew)); exact HO818.out) hb); have n1_ := Aside0.mk (Kd.R_below (by (with_reducible repeat (first | apply Kd.R_alloc | apply Kd.R_drewN | apply Kd.R_drew)); exact HO821.out) hb); have n2_ := Aside0.mk (Kd.R_below (by (with_reducible repeat (first | apply Kd.R_alloc | apply Kd.R_drewN | apply Kd.R_drew)); exact HO825.out) hb); have n3_ := Aside0.mk (Kd.S_below (by (with_reducible repeat (first | apply Kd.S_alloc | apply Kd.S_drewN | apply Kd.S_drew)); exact HO829.out) hb); have n4_ := Aside0.mk (below_step (by repeat (first | (with_reducible first | exact HB.out | apply below_alloc | apply pw_below_drewN | apply below_drew1) | exact HB.out)) hb); clear HO818; clear HO821; clear HO825; clear HO829; clear HB; have HO818 := n0_; have HO821 := n1_; have HO825 := n2_; have HO829 := n3_; have HB := n4_; clear n0_ n1_ n2_ n3_ n4_; (try clear hb); (try clear hb2); (try clear hk); (try clear hi)) | (go_at_call 39; (with_reducible refine (numnahlaw06_valid.calls k a0 _ _ t816 _ _ t819 false _ ?side1 ?side2 ?side3 ?side4 A9.out).mono ?_); (case side1 => repeat (first | exact (Kd.R_reads' HO818.out).2.2 | (with_reducible refine Kd.C_alloc ?_ _) | (with_reducible refine Kd.C_drewN ?_ _) | (with_reducible refine Kd.C_drew ?_))); (case side2 => exact (Kd.R_reads' HO818.out).2.1); (case side3 => repeat (first | exact (Kd.R_reads' HO821.out).2.2 | (with_reducible refine Kd.C_alloc ?_ _) | (with_reducible refine Kd.C_drewN ?_ _) | (with_reducible refine Kd.C_drew ?_))); (case side4 => exact (Kd.R_reads' HO821.out).2.1); rintro e w' ⟨rfl, ⟨nd, rfl⟩⟩; (try first | exact ⟨rfl, _, World.drewN_drewN _ _ _⟩ | exact ⟨rfl, _, Eq.trans (World.drewN_drewN _ _ _) (congrArg (World.drewN _) (Nat.add_assoc _ _ _))⟩); obtain ⟨Ao91, co91, eo91⟩ := Kd.R_slice HO825.out; subst eo91; obtain ⟨Ao92, co92, eo92⟩ := Kd.S_slice HO829.out; subst eo92) | (go_at_call 21; (with_reducible refine (numnahlaw06_awake.calls  t833 _ A83.out ?sideT).mono ?_); (case sideT => exact tab_of (by repeat (first | (with_reducible first | exact HB.out | apply below_alloc | apply pw_below_drewN | apply below_drew1) | exact HB.out)) HT.out); rintro e w93 ⟨rfl, hb⟩; have n0_ := Aside0.mk (Kd.R_below (by (with_reducible repeat (first | apply Kd.R_alloc | apply Kd.R_drewN | apply Kd.R_drew)); exact HO818.out) hb); have n1_ := Aside0.mk (Kd.R_below (by (with_reducible repeat (first | apply Kd.R_alloc | apply Kd.R_drewN | apply Kd.R_drew)); exact HO821.out) hb); have n2_ := Aside0.mk (Kd.R_below (by (with_reducible repeat (first | apply Kd.R_alloc | apply Kd.R_drewN | apply Kd.R_drew)); exact HO825.out) hb); have n3_ := Aside0.mk (Kd.S_below (by (with_reducible repeat (first | apply Kd.S_alloc | apply Kd.S_drewN | apply Kd.S_drew)); exact HO829.out) hb); have n4_ := Aside0.mk (below_step (by repeat (first | (with_reducible first | exact HB.out | apply below_alloc | apply pw_below_drewN | apply below_drew1) | exact HB.out)) hb); clear HO818; clear HO821; clear HO825; clear HO829; clear HB; have HO818 := n0_; have HO821 := n1_; have HO825 := n2_; have HO829 := n3_; have HB := n4_; clear n0_ n1_ n2_ n3_ n4_; (try clear hb); (try clear hb2); (try clear hk); (try clear hi)))
                go_ret
                exact ⟨by first | rfl | (simp [errW_none, errW_some] <;> rfl) | (simp [*, errW_none, errW_some] <;> rfl), by repeat (first | (with_reducible first | exact HB.out | apply below_alloc | apply pw_below_drewN | apply below_drew1) | exact HB.out)⟩
              · rw [if_neg c82] at H
                have c82b0 : (t831 == 2) = false := beq_eq_false_iff_ne.mpr c82
                have c82b1 : (t831 != 2) = true := bne_iff_ne.mpr c82
                obtain rfl := Option.some.inj H
                go_enter Tryd.func16, Tryd.ntmps16
                go_wp2_with (first | (go_at_call 17; (with_reducible refine (numnahlaw06_pairs.calls _ _ l1 t816 _ ?side1 ?side2 A4.out).mono ?_); (case side1 => repeat (first | exact HR1.out | (with_reducible refine Kd.C_alloc ?_ _) | (with_reducible refine Kd.C_drewN ?_ _) | (with_reducible refine Kd.C_drew ?_))); (case side2 => exact HC1.out); rintro e w94 ⟨v817, rfl, ho0, hb⟩; have n0_ := Aside0.mk (Kd.R_lower ho0 (below_size (by repeat (first | (with_reducible first | exact HB.out | apply below_alloc | apply pw_below_drewN | apply below_drew1) | exact HB.out)))); have n1_ := Aside0.mk (below_step (by repeat (first | (with_reducible first | exact HB.out | apply below_alloc | apply pw_below_drewN | apply below_drew1) | exact HB.out)) hb); clear HB; have HO818 := n0_; have HB := n1_; clear n0_ n1_; (try clear hb); (try clear hb2); (try clear hk); (try clear hi); (try clear ho0)) | (go_at_call 36; (with_reducible refine (numnahlaw06_list.calls _ _ l2 t819 _ ?side1 ?side2 A5.out).mono ?_); (case side1 => repeat (first | exact (Kd.C_below HR2.out HB.out) | (with_reducible refine Kd.C_alloc ?_ _) | (with_reducible refine Kd.C_drewN ?_ _) | (with_reducible refine Kd.C_drew ?_))); (case side2 => exact HC2.out); rintro e w95 ⟨v820, rfl, ho0, hb⟩; have n0_ := Aside0.mk (Kd.R_below (by (with_reducible repeat (first | apply Kd.R_alloc | apply Kd.R_drewN | apply Kd.R_drew)); exact HO818.out) hb); have n1_ := Aside0.mk (Kd.R_lower ho0 (below_size (by repeat (first | (with_reducible first | exact HB.out | apply below_alloc | apply pw_below_drewN | apply below_drew1) | exact HB.out)))); have n2_ := Aside0.mk (below_step (by repeat (first | (with_reducible first | exact HB.out | apply below_alloc | apply pw_below_drewN | apply below_drew1) | exact HB.out)) hb); clear HO818; clear HB; have HO818 := n0_; have HO821 := n1_; have HB := n2_; clear n0_ n1_ n2_; (try clear hb); (try clear hb2); (try clear hk); (try clear hi); (try clear ho0); obtain ⟨Ao96, co96, eo96⟩ := Kd.R_slice HO818.out; subst eo96; obtain ⟨Ao97, co97, eo97⟩ := Kd.R_slice HO821.out; subst eo97) | (go_at_call 54; (with_reducible refine (wetting_Chronicle.calls a0 _ _ t816 _ _ t819 t822 t823 _ ?side1 ?side2 ?side3 ?side4 A6.out ?sideT).mono ?_); (case sideT => exact tab_of (by repeat (first | (with_reducible first | exact HB.out | apply below_alloc | apply pw_below_drewN | apply below_drew1) | exact HB.out)) HT.out); (case side1 => repeat (first | exact (Kd.R_reads' HO818.out).2.2 | (with_reducible refine Kd.C_alloc ?_ _) | (with_reducible refine Kd.C_drewN ?_ _) | (with_reducible refine Kd.C_drew ?_))); (case side2 => exact (Kd.R_reads' HO818.out).2.1); (case side3 => repeat (first | exact (Kd.R_reads' HO821.out).2.2 | (with_reducible refine Kd.C_alloc ?_ _) | (with_reducible refine Kd.C_drewN ?_ _) | (with_reducible refine Kd.C_drew ?_))); (case side4 => exact (Kd.R_reads' HO821.out).2.1); rintro e w98 ⟨v824, rfl, ho0, hb⟩; have n0_ := Aside0.mk (Kd.R_elder' (by (with_reducible repeat (first | apply Kd.R_alloc | apply Kd.R_drewN | apply Kd.R_drew)); exact HO818.out) (Kd.R_base ho0) hb); have n1_ := Aside0.mk (Kd.R_below (by (with_reducible repeat (first | apply Kd.R_alloc | apply Kd.R_drewN | apply Kd.R_drew)); exact HO821.out) hb); have n2_ := Aside0.mk (Kd.R_lower (Kd.R_new' ho0 (Kd.R_lt (by (with_reducible repeat (first | apply Kd.R_alloc | apply Kd.R_drewN | apply Kd.R_drew)); exact HO818.out))) (below_size (by repeat (first | (with_reducible first | exact HB.out | apply below_alloc | apply pw_below_drewN | apply below_drew1) | exact HB.out)))); have n3_ := Aside0.mk (below_step (by repeat (first | (with_reducible first | exact HB.out | apply below_alloc | apply pw_below_drewN | apply below_drew1) | exact HB.out)) hb); clear HO818; clear HO821; clear HB; have HO818 := n0_; have HO821 := n1_; have HO825 := n2_; have HB := n3_; clear n0_ n1_ n2_ n3_; (try clear hb); (try clear hb2); (try clear hk); (try clear hi); (try clear ho0)) | (go_at_call 53; (with_reducible refine (wetting_Chains.calls a0 _ _ t816 _ _ t819 t826 t827 _ ?side1 ?side2 ?side3 ?side4 A7.out ?sideT).mono ?_); (case sideT => exact tab_of (by repeat (first | (with_reducible first | exact HB.out | apply below_alloc | apply pw_below_drewN | apply below_drew1) | exact HB.out)) HT.out); (case side1 => repeat (first | exact (Kd.R_reads' HO818.out).2.2 | (with_reducible refine Kd.C_alloc ?_ _) | (with_reducible refine Kd.C_drewN ?_ _) | (with_reducible refine Kd.C_drew ?_))); (case side2 => exact (Kd.R_reads' HO818.out).2.1); (case side3 => repeat (first | exact (Kd.R_reads' HO821.out).2.2 | (with_reducible refine Kd.C_alloc ?_ _) | (with_reducible refine Kd.C_drewN ?_ _) | (with_reducible refine Kd.C_drew ?_))); (case side4 => exact (Kd.R_reads' HO821.out).2.1); rintro e w99 ⟨v828, rfl, ho0, hb⟩; have n0_ := Aside0.mk (Kd.R_below (by (with_reducible repeat (first | apply Kd.R_alloc | apply Kd.R_drewN | apply Kd.R_drew)); exact HO818.out) hb); have n1_ := Aside0.mk (Kd.R_below (by (with_reducible repeat (first | apply Kd.R_alloc | apply Kd.R_drewN | apply Kd.R_drew)); exact HO821.out) hb); have n2_ := Aside0.mk (Kd.R_below (by (with_reducible repeat (first | apply Kd.R_alloc | apply Kd.R_drewN | apply Kd.R_drew)); exact HO825.out) hb); have n3_ := Aside0.mk (Kd.S_lower (Kd.S_new' ho0 (Kd.R_lt (by (with_reducible repeat (first | apply Kd.R_alloc | apply Kd.R_drewN | apply Kd.R_drew)); exact HO821.out))) (below_size (by repeat (first | (with_reducible first | exact HB.out | apply below_alloc | apply pw_below_drewN | apply below_drew1) | exact HB.out)))); have n4_ := Aside0.mk (below_step (by repeat (first | (with_reducible first | exact HB.out | apply below_alloc | apply pw_below_drewN | apply below_drew1) | exact HB.out)) hb); clear HO818; clear HO821; clear HO825; clear HB; have HO818 := n0_; have HO821 := n1_; have HO825 := n2_; have HO829 := n3_; have HB := n4_; clear n0_ n1_ n2_ n3_ n4_; (try clear hb); (try clear hb2); (try clear hk); (try clear hi); (try clear ho0)) | (go_at_call 31; (with_reducible refine (wetting_IsFort.calls a0 _ _ t816 _ _ t819 false t831 _ ?side1 ?side2 ?side3 ?side4 A8.out ?sideT).mono ?_); (case sideT => exact tab_of (by repeat (first | (with_reducible first | exact HB.out | apply below_alloc | apply pw_below_drewN | apply below_drew1) | exact HB.out)) HT.out); (case side1 => repeat (first | exact (Kd.R_reads' HO818.out).2.2 | (with_reducible refine Kd.C_alloc ?_ _) | (with_reducible refine Kd.C_drewN ?_ _) | (with_reducible refine Kd.C_drew ?_))); (case side2 => exact (Kd.R_reads' HO818.out).2.1); (case side3 => repeat (first | exact (Kd.R_reads' HO821.out).2.2 | (with_reducible refine Kd.C_alloc ?_ _) | (with_reducible refine Kd.C_drewN ?_ _) | (with_reducible refine Kd.C_drew ?_))); (case side4 => exact (Kd.R_reads' HO821.out).2.1); rintro e w100 ⟨rfl, hb⟩; have n0_ := Aside0.mk (Kd.R_below (by (with_reducible repeat (first | apply Kd.R_alloc | apply Kd.R_drewN | apply Kd.R_drew)); exact HO818.out) hb); have n1_ := Aside0.mk (Kd.R_below (by (with_reducible repeat (first | apply Kd.R_alloc | apply Kd.R_drewN | apply Kd.R_drew)); exact HO821.out) hb); have n2_ := Aside0.mk (Kd.R_below (by (with_reducible repeat (first | apply Kd.R_alloc | apply Kd.R_drewN | apply Kd.R_drew)); exact HO825.out) hb); have n3_ := Aside0.mk (Kd.S_below (by (with_reducible repeat (first | apply Kd.S_alloc | apply Kd.S_drewN | apply Kd.S_drew)); exact HO829.out) hb); have n4_ := Aside0.mk (below_step (by repeat (first | (with_reducible first | exact HB.out | apply below_alloc | apply pw_below_drewN | apply below_drew1) | exact HB.out)) hb); clear HO818; clear HO821; clear HO825; clear HO829; clear HB; have HO818 := n0_; have HO821 := n1_; have HO825 := n2_; have HO829 := n3_; have HB := n4_; clear n0_ n1_ n2_ n3_ n4_; (try clear hb); (try clear hb2); (try clear hk); (try clear hi)) | (go_at_call 39; (with_reducible refine (numnahlaw06_valid.calls k a0 _ _ t816 _ _ t819 false _ ?side1 ?side2 ?side3 ?side4 A9.out).mono ?_); (case side1 => repeat (first | exact (Kd.R_reads' HO818.out).2.2 | (with_reducible refine Kd.C_alloc ?_ _) | (with_reducible refine Kd.C_drewN ?_ _) | (with_reducible refine Kd.C_drew ?_))); (case side2 => exact (Kd.R_reads' HO818.out).2.1); (case side3 => repeat (first | exact (Kd.R_reads' HO821.out).2.2 | (with_reducible refine Kd.C_alloc ?_ _) | (with_reducible refine Kd.C_drewN ?_ _) | (with_reducible refine Kd.C_drew ?_))); (case side4 => exact (Kd.R_reads' HO821.out).2.1); rintro e w' ⟨rfl, ⟨nd, rfl⟩⟩; (try first | exact ⟨rfl, _, World.drewN_drewN _ _ _⟩ | exact ⟨rfl, _, Eq.trans (World.drewN_drewN _ _ _) (congrArg (World.drewN _) (Nat.add_assoc _ _ _))⟩); obtain ⟨Ao101, co101, eo101⟩ := Kd.R_slice HO825.out; subst eo101; obtain ⟨Ao102, co102, eo102⟩ := Kd.S_slice HO829.out; subst eo102))
                go_ret
                exact ⟨by first | rfl | (simp [errW_none, errW_some] <;> rfl) | (simp [*, errW_none, errW_some] <;> rfl), by repeat (first | (with_reducible first | exact HB.out | apply below_alloc | apply pw_below_drewN | apply below_drew1) | exact HB.out)⟩
          · rw [if_neg c71] at H
            have c71b0 : (t827 == 2) = false := beq_eq_false_iff_ne.mpr c71
            have c71b1 : (t827 != 2) = true := bne_iff_ne.mpr c71
            obtain rfl := Option.some.inj H
            go_enter Tryd.func16, Tryd.ntmps16
            go_wp2_with (first | (go_at_call 17; (with_reducible refine (numnahlaw06_pairs.calls _ _ l1 t816 _ ?side1 ?side2 A4.out).mono ?_); (case side1 => repeat (first | exact HR1.out | (with_reducible refine Kd.C_alloc ?_ _) | (with_reducible refine Kd.C_drewN ?_ _) | (with_reducible refine Kd.C_drew ?_))); (case side2 => exact HC1.out); rintro e w103 ⟨v817, rfl, ho0, hb⟩; have n0_ := Aside0.mk (Kd.R_lower ho0 (below_size (by repeat (first | (with_reducible first | exact HB.out | apply below_alloc | apply pw_below_drewN | apply below_drew1) | exact HB.out)))); have n1_ := Aside0.mk (below_step (by repeat (first | (with_reducible first | exact HB.out | apply below_alloc | apply pw_below_drewN | apply below_drew1) | exact HB.out)) hb); clear HB; have HO818 := n0_; have HB := n1_; clear n0_ n1_; (try clear hb); (try clear hb2); (try clear hk); (try clear hi); (try clear ho0)) | (go_at_call 36; (with_reducible refine (numnahlaw06_list.calls _ _ l2 t819 _ ?side1 ?side2 A5.out).mono ?_); (case side1 => repeat (first | exact (Kd.C_below HR2.out HB.out) | (with_reducible refine Kd.C_alloc ?_ _) | (with_reducible refine Kd.C_drewN ?_ _) | (with_reducible refine Kd.C_drew ?_))); (case side2 => exact HC2.out); rintro e w104 ⟨v820, rfl, ho0, hb⟩; have n0_ := Aside0.mk (Kd.R_below (by (with_reducible repeat (first | apply Kd.R_alloc | apply Kd.R_drewN | apply Kd.R_drew)); exact HO818.out) hb); have n1_ := Aside0.mk (Kd.R_lower ho0 (below_size (by repeat (first | (with_reducible first | exact HB.out | apply below_alloc | apply pw_below_drewN | apply below_drew1) | exact HB.out)))); have n2_ := Aside0.mk (below_step (by repeat (first | (with_reducible first | exact HB.out | apply below_alloc | apply pw_below_drewN | apply below_drew1) | exact HB.out)) hb); clear HO818; clear HB; have HO818 := n0_; have HO821 := n1_; have HB := n2_; clear n0_ n1_ n2_; (try clear hb); (try clear hb2); (try clear hk); (try clear hi); (try clear ho0); obtain ⟨Ao105, co105, eo105⟩ := Kd.R_slice HO818.out; subst eo105; obtain ⟨Ao106, co106, eo106⟩ := Kd.R_slice HO821.out; subst eo106) | (go_at_call 54; (with_reducible refine (wetting_Chronicle.calls a0 _ _ t816 _ _ t819 t822 t823 _ ?side1 ?side2 ?side3 ?side4 A6.out ?sideT).mono ?_); (case sideT => exact tab_of (by repeat (first | (with_reducible first | exact HB.out | apply below_alloc | apply pw_below_drewN | apply below_drew1) | exact HB.out)) HT.out); (case side1 => repeat (first | exact (Kd.R_reads' HO818.out).2.2 | (with_reducible refine Kd.C_alloc ?_ _) | (with_reducible refine Kd.C_drewN ?_ _) | (with_reducible refine Kd.C_drew ?_))); (case side2 => exact (Kd.R_reads' HO818.out).2.1); (case side3 => repeat (first | exact (Kd.R_reads' HO821.out).2.2 | (with_reducible refine Kd.C_alloc ?_ _) | (with_reducible refine Kd.C_drewN ?_ _) | (with_reducible refine Kd.C_drew ?_))); (case side4 => exact (Kd.R_reads' HO821.out).2.1); rintro e w107 ⟨v824, rfl, ho0, hb⟩; have n0_ := Aside0.mk (Kd.R_elder' (by (with_reducible repeat (first | apply Kd.R_alloc | apply Kd.R_drewN | apply Kd.R_drew)); exact HO818.out) (Kd.R_base ho0) hb); have n1_ := Aside0.mk (Kd.R_below (by (with_reducible repeat (first | apply Kd.R_alloc | apply Kd.R_drewN | apply Kd.R_drew)); exact HO821.out) hb); have n2_ := Aside0.mk (Kd.R_lower (Kd.R_new' ho0 (Kd.R_lt (by (with_reducible repeat (first | apply Kd.R_alloc | apply Kd.R_drewN | apply Kd.R_drew)); exact HO818.out))) (below_size (by repeat (first | (with_reducible first | exact HB.out | apply below_alloc | apply pw_below_drewN | apply below_drew1) | exact HB.out)))); have n3_ := Aside0.mk (below_step (by repeat (first | (with_reducible first | exact HB.out | apply below_alloc | apply pw_below_drewN | apply below_drew1) | exact HB.out)) hb); clear HO818; clear HO821; clear HB; have HO818 := n0_; have HO821 := n1_; have HO825 := n2_; have HB := n3_; clear n0_ n1_ n2_ n3_; (try clear hb); (try clear hb2); (try clear hk); (try clear hi); (try clear ho0)) | (go_at_call 53; (with_reducible refine (wetting_Chains.calls a0 _ _ t816 _ _ t819 t826 t827 _ ?side1 ?side2 ?side3 ?side4 A7.out ?sideT).mono ?_); (case sideT => exact tab_of (by repeat (first | (with_reducible first | exact HB.out | apply below_alloc | apply pw_below_drewN | apply below_drew1) | exact HB.out)) HT.out); (case side1 => repeat (first | exact (Kd.R_reads' HO818.out).2.2 | (with_reducible refine Kd.C_alloc ?_ _) | (with_reducible refine Kd.C_drewN ?_ _) | (with_reducible refine Kd.C_drew ?_))); (case side2 => exact (Kd.R_reads' HO818.out).2.1); (case side3 => repeat (first | exact (Kd.R_reads' HO821.out).2.2 | (with_reducible refine Kd.C_alloc ?_ _) | (with_reducible refine Kd.C_drewN ?_ _) | (with_reducible refine Kd.C_drew ?_))); (case side4 => exact (Kd.R_reads' HO821.out).2.1); rintro e w108 ⟨v828, rfl, ho0, hb⟩; have n0_ := Aside0.mk (Kd.R_below (by (with_reducible repeat (first | apply Kd.R_alloc | apply Kd.R_drewN | apply Kd.R_drew)); exact HO818.out) hb); have n1_ := Aside0.mk (Kd.R_below (by (with_reducible repeat (first | apply Kd.R_alloc | apply Kd.R_drewN | apply Kd.R_drew)); exact HO821.out) hb); have n2_ := Aside0.mk (Kd.R_below (by (with_reducible repeat (first | apply Kd.R_alloc | apply Kd.R_drewN | apply Kd.R_drew)); exact HO825.out) hb); have n3_ := Aside0.mk (Kd.S_lower (Kd.S_new' ho0 (Kd.R_lt (by (with_reducible repeat (first | apply Kd.R_alloc | apply Kd.R_drewN | apply Kd.R_drew)); exact HO821.out))) (below_size (by repeat (first | (with_reducible first | exact HB.out | apply below_alloc | apply pw_below_drewN | apply below_drew1) | exact HB.out)))); have n4_ := Aside0.mk (below_step (by repeat (first | (with_reducible first | exact HB.out | apply below_alloc | apply pw_below_drewN | apply below_drew1) | exact HB.out)) hb); clear HO818; clear HO821; clear HO825; clear HB; have HO818 := n0_; have HO821 := n1_; have HO825 := n2_; have HO829 := n3_; have HB := n4_; clear n0_ n1_ n2_ n3_ n4_; (try clear hb); (try clear hb2); (try clear hk); (try clear hi); (try clear ho0)) | (go_at_call 31; (with_reducible refine (wetting_IsFort.calls a0 _ _ t816 _ _ t819 t830 t831 _ ?side1 ?side2 ?side3 ?side4 A8.out ?sideT).mono ?_); (case sideT => exact tab_of (by repeat (first | (with_reducible first | exact HB.out | apply below_alloc | apply pw_below_drewN | apply below_drew1) | exact HB.out)) HT.out); (case side1 => repeat (first | exact (Kd.R_reads' HO818.out).2.2 | (with_reducible refine Kd.C_alloc ?_ _) | (with_reducible refine Kd.C_drewN ?_ _) | (with_reducible refine Kd.C_drew ?_))); (case side2 => exact (Kd.R_reads' HO818.out).2.1); (case side3 => repeat (first | exact (Kd.R_reads' HO821.out).2.2 | (with_reducible refine Kd.C_alloc ?_ _) | (with_reducible refine Kd.C_drewN ?_ _) | (with_reducible refine Kd.C_drew ?_))); (case side4 => exact (Kd.R_reads' HO821.out).2.1); rintro e w109 ⟨rfl, hb⟩; have n0_ := Aside0.mk (Kd.R_below (by (with_reducible repeat (first | apply Kd.R_alloc | apply Kd.R_drewN | apply Kd.R_drew)); exact HO818.out) hb); have n1_ := Aside0.mk (Kd.R_below (by (with_reducible repeat (first | apply Kd.R_alloc | apply Kd.R_drewN | apply Kd.R_drew)); exact HO821.out) hb); have n2_ := Aside0.mk (Kd.R_below (by (with_reducible repeat (first | apply Kd.R_alloc | apply Kd.R_drewN | apply Kd.R_drew)); exact HO825.out) hb); have n3_ := Aside0.mk (Kd.S_below (by (with_reducible repeat (first | apply Kd.S_alloc | apply Kd.S_drewN | apply Kd.S_drew)); exact HO829.out) hb); have n4_ := Aside0.mk (below_step (by repeat (first | (with_reducible first | exact HB.out | apply below_alloc | apply pw_below_drewN | apply below_drew1) | exact HB.out)) hb); clear HO818; clear HO821; clear HO825; clear HO829; clear HB; have HO818 := n0_; have HO821 := n1_; have HO825 := n2_; have HO829 := n3_; have HB := n4_; clear n0_ n1_ n2_ n3_ n4_; (try clear hb); (try clear hb2); (try clear hk); (try clear hi)) | (go_at_call 39; (with_reducible refine (numnahlaw06_valid.calls k a0 _ _ t816 _ _ t819 false _ ?side1 ?side2 ?side3 ?side4 A9.out).mono ?_); (case side1 => repeat (first | exact (Kd.R_reads' HO818.out).2.2 | (with_reducible refine Kd.C_alloc ?_ _) | (with_reducible refine Kd.C_drewN ?_ _) | (with_reducible refine Kd.C_drew ?_))); (case side2 => exact (Kd.R_reads' HO818.out).2.1); (case side3 => repeat (first | exact (Kd.R_reads' HO821.out).2.2 | (with_reducible refine Kd.C_alloc ?_ _) | (with_reducible refine Kd.C_drewN ?_ _) | (with_reducible refine Kd.C_drew ?_))); (case side4 => exact (Kd.R_reads' HO821.out).2.1); rintro e w' ⟨rfl, ⟨nd, rfl⟩⟩; (try first | exact ⟨rfl, _, World.drewN_drewN _ _ _⟩ | exact ⟨rfl, _, Eq.trans (World.drewN_drewN _ _ _) (congrArg (World.drewN _) (Nat.add_assoc _ _ _))⟩); obtain ⟨Ao110, co110, eo110⟩ := Kd.R_slice HO825.out; subst eo110; obtain ⟨Ao111, co111, eo111⟩ := Kd.S_slice HO829.out; subst eo111))
            go_ret
            exact ⟨by first | rfl | (simp [errW_none, errW_some] <;> rfl) | (simp [*, errW_none, errW_some] <;> rfl), by repeat (first | (with_reducible first | exact HB.out | apply below_alloc | apply pw_below_drewN | apply below_drew1) | exact HB.out)⟩
        · rw [if_neg c70] at H
          have c70b0 : ((t826.length : Int) == 0) = false := beq_eq_false_iff_ne.mpr c70
          have c70b1 : ((t826.length : Int) != 0) = true := bne_iff_ne.mpr c70
          have c70b2 : ¬ (t826 = []) := fun h_ => c70 (by rw [h_]; rfl)
          obtain rfl := Option.some.inj H
          go_enter Tryd.func16, Tryd.ntmps16
          go_wp2_with (first | (go_at_call 17; (with_reducible refine (numnahlaw06_pairs.calls _ _ l1 t816 _ ?side1 ?side2 A4.out).mono ?_); (case side1 => repeat (first | exact HR1.out | (with_reducible refine Kd.C_alloc ?_ _) | (with_reducible refine Kd.C_drewN ?_ _) | (with_reducible refine Kd.C_drew ?_))); (case side2 => exact HC1.out); rintro e w112 ⟨v817, rfl, ho0, hb⟩; have n0_ := Aside0.mk (Kd.R_lower ho0 (below_size (by repeat (first | (with_reducible first | exact HB.out | apply below_alloc | apply pw_below_drewN | apply below_drew1) | exact HB.out)))); have n1_ := Aside0.mk (below_step (by repeat (first | (with_reducible first | exact HB.out | apply below_alloc | apply pw_below_drewN | apply below_drew1) | exact HB.out)) hb); clear HB; have HO818 := n0_; have HB := n1_; clear n0_ n1_; (try clear hb); (try clear hb2); (try clear hk); (try clear hi); (try clear ho0)) | (go_at_call 36; (with_reducible refine (numnahlaw06_list.calls _ _ l2 t819 _ ?side1 ?side2 A5.out).mono ?_); (case side1 => repeat (first | exact (Kd.C_below HR2.out HB.out) | (with_reducible refine Kd.C_alloc ?_ _) | (with_reducible refine Kd.C_drewN ?_ _) | (with_reducible refine Kd.C_drew ?_))); (case side2 => exact HC2.out); rintro e w113 ⟨v820, rfl, ho0, hb⟩; have n0_ := Aside0.mk (Kd.R_below (by (with_reducible repeat (first | apply Kd.R_alloc | apply Kd.R_drewN | apply Kd.R_drew)); exact HO818.out) hb); have n1_ := Aside0.mk (Kd.R_lower ho0 (below_size (by repeat (first | (with_reducible first | exact HB.out | apply below_alloc | apply pw_below_drewN | apply below_drew1) | exact HB.out)))); have n2_ := Aside0.mk (below_step (by repeat (first | (with_reducible first | exact HB.out | apply below_alloc | apply pw_below_drewN | apply below_drew1) | exact HB.out)) hb); clear HO818; clear HB; have HO818 := n0_; have HO821 := n1_; have HB := n2_; clear n0_ n1_ n2_; (try clear hb); (try clear hb2); (try clear hk); (try clear hi); (try clear ho0); obtain ⟨Ao114, co114, eo114⟩ := Kd.R_slice HO818.out; subst eo114; obtain ⟨Ao115, co115, eo115⟩ := Kd.R_slice HO821.out; subst eo115) | (go_at_call 54; (with_reducible refine (wetting_Chronicle.calls a0 _ _ t816 _ _ t819 t822 t823 _ ?side1 ?side2 ?side3 ?side4 A6.out ?sideT).mono ?_); (case sideT => exact tab_of (by repeat (first | (with_reducible first | exact HB.out | apply below_alloc | apply pw_below_drewN | apply below_drew1) | exact HB.out)) HT.out); (case side1 => repeat (first | exact (Kd.R_reads' HO818.out).2.2 | (with_reducible refine Kd.C_alloc ?_ _) | (with_reducible refine Kd.C_drewN ?_ _) | (with_reducible refine Kd.C_drew ?_))); (case side2 => exact (Kd.R_reads' HO818.out).2.1); (case side3 => repeat (first | exact (Kd.R_reads' HO821.out).2.2 | (with_reducible refine Kd.C_alloc ?_ _) | (with_reducible refine Kd.C_drewN ?_ _) | (with_reducible refine Kd.C_drew ?_))); (case side4 => exact (Kd.R_reads' HO821.out).2.1); rintro e w116 ⟨v824, rfl, ho0, hb⟩; have n0_ := Aside0.mk (Kd.R_elder' (by (with_reducible repeat (first | apply Kd.R_alloc | apply Kd.R_drewN | apply Kd.R_drew)); exact HO818.out) (Kd.R_base ho0) hb); have n1_ := Aside0.mk (Kd.R_below (by (with_reducible repeat (first | apply Kd.R_alloc | apply Kd.R_drewN | apply Kd.R_drew)); exact HO821.out) hb); have n2_ := Aside0.mk (Kd.R_lower (Kd.R_new' ho0 (Kd.R_lt (by (with_reducible repeat (first | apply Kd.R_alloc | apply Kd.R_drewN | apply Kd.R_drew)); exact HO818.out))) (below_size (by repeat (first | (with_reducible first | exact HB.out | apply below_alloc | apply pw_below_drewN | apply below_drew1) | exact HB.out)))); have n3_ := Aside0.mk (below_step (by repeat (first | (with_reducible first | exact HB.out | apply below_alloc | apply pw_below_drewN | apply below_drew1) | exact HB.out)) hb); clear HO818; clear HO821; clear HB; have HO818 := n0_; have HO821 := n1_; have HO825 := n2_; have HB := n3_; clear n0_ n1_ n2_ n3_; (try clear hb); (try clear hb2); (try clear hk); (try clear hi); (try clear ho0)) | (go_at_call 53; (with_reducible refine (wetting_Chains.calls a0 _ _ t816 _ _ t819 t826 t827 _ ?side1 ?side2 ?side3 ?side4 A7.out ?sideT).mono ?_); (case sideT => exact tab_of (by repeat (first | (with_reducible first | exact HB.out | apply below_alloc | apply pw_below_drewN | apply below_drew1) | exact HB.out)) HT.out); (case side1 => repeat (first | exact (Kd.R_reads' HO818.out).2.2 | (with_reducible refine Kd.C_alloc ?_ _) | (with_reducible refine Kd.C_drewN ?_ _) | (with_reducible refine Kd.C_drew ?_))); (case side2 => exact (Kd.R_reads' HO818.out).2.1); (case side3 => repeat (first | exact (Kd.R_reads' HO821.out).2.2 | (with_reducible refine Kd.C_alloc ?_ _) | (with_reducible refine Kd.C_drewN ?_ _) | (with_reducible refine Kd.C_drew ?_))); (case side4 => exact (Kd.R_reads' HO821.out).2.1); rintro e w117 ⟨v828, rfl, ho0, hb⟩; have n0_ := Aside0.mk (Kd.R_below (by (with_reducible repeat (first | apply Kd.R_alloc | apply Kd.R_drewN | apply Kd.R_drew)); exact HO818.out) hb); have n1_ := Aside0.mk (Kd.R_below (by (with_reducible repeat (first | apply Kd.R_alloc | apply Kd.R_drewN | apply Kd.R_drew)); exact HO821.out) hb); have n2_ := Aside0.mk (Kd.R_below (by (with_reducible repeat (first | apply Kd.R_alloc | apply Kd.R_drewN | apply Kd.R_drew)); exact HO825.out) hb); have n3_ := Aside0.mk (Kd.S_lower (Kd.S_new' ho0 (Kd.R_lt (by (with_reducible repeat (first | apply Kd.R_alloc | apply Kd.R_drewN | apply Kd.R_drew)); exact HO821.out))) (below_size (by repeat (first | (with_reducible first | exact HB.out | apply below_alloc | apply pw_below_drewN | apply below_drew1) | exact HB.out)))); have n4_ := Aside0.mk (below_step (by repeat (first | (with_reducible first | exact HB.out | apply below_alloc | apply pw_below_drewN | apply below_drew1) | exact HB.out)) hb); clear HO818; clear HO821; clear HO825; clear HB; have HO818 := n0_; have HO821 := n1_; have HO825 := n2_; have HO829 := n3_; have HB := n4_; clear n0_ n1_ n2_ n3_ n4_; (try clear hb); (try clear hb2); (try clear hk); (try clear hi); (try clear ho0)) | (go_at_call 31; (with_reducible refine (wetting_IsFort.calls a0 _ _ t816 _ _ t819 t830 t831 _ ?side1 ?side2 ?side3 ?side4 A8.out ?sideT).mono ?_); (case sideT => exact tab_of (by repeat (first | (with_reducible first | exact HB.out | apply below_alloc | apply pw_below_drewN | apply below_drew1) | exact HB.out)) HT.out); (case side1 => repeat (first | exact (Kd.R_reads' HO818.out).2.2 | (with_reducible refine Kd.C_alloc ?_ _) | (with_reducible refine Kd.C_drewN ?_ _) | (with_reducible refine Kd.C_drew ?_))); (case side2 => exact (Kd.R_reads' HO818.out).2.1); (case side3 => repeat (first | exact (Kd.R_reads' HO821.out).2.2 | (with_reducible refine Kd.C_alloc ?_ _) | (with_reducible refine Kd.C_drewN ?_ _) | (with_reducible refine Kd.C_drew ?_))); (case side4 => exact (Kd.R_reads' HO821.out).2.1); rintro e w118 ⟨rfl, hb⟩; have n0_ := Aside0.mk (Kd.R_below (by (with_reducible repeat (first | apply Kd.R_alloc | apply Kd.R_drewN | apply Kd.R_drew)); exact HO818.out) hb); have n1_ := Aside0.mk (Kd.R_below (by (with_reducible repeat (first | apply Kd.R_alloc | apply Kd.R_drewN | apply Kd.R_drew)); exact HO821.out) hb); have n2_ := Aside0.mk (Kd.R_below (by (with_reducible repeat (first | apply Kd.R_alloc | apply Kd.R_drewN | apply Kd.R_drew)); exact HO825.out) hb); have n3_ := Aside0.mk (Kd.S_below (by (with_reducible repeat (first | apply Kd.S_alloc | apply Kd.S_drewN | apply Kd.S_drew)); exact HO829.out) hb); have n4_ := Aside0.mk (below_step (by repeat (first | (with_reducible first | exact HB.out | apply below_alloc | apply pw_below_drewN | apply below_drew1) | exact HB.out)) hb); clear HO818; clear HO821; clear HO825; clear HO829; clear HB; have HO818 := n0_; have HO821 := n1_; have HO825 := n2_; have HO829 := n3_; have HB := n4_; clear n0_ n1_ n2_ n3_ n4_; (try clear hb); (try clear hb2); (try clear hk); (try clear hi)) | (go_at_call 39; (with_reducible refine (numnahlaw06_valid.calls k a0 _ _ t816 _ _ t819 false _ ?side1 ?side2 ?side3 ?side4 A9.out).mono ?_); (case side1 => repeat (first | exact (Kd.R_reads' HO818.out).2.2 | (with_reducible refine Kd.C_alloc ?_ _) | (with_reducible refine Kd.C_drewN ?_ _) | (with_reducible refine Kd.C_drew ?_))); (case side2 => exact (Kd.R_reads' HO818.out).2.1); (case side3 => repeat (first | exact (Kd.R_reads' HO821.out).2.2 | (with_reducible refine Kd.C_alloc ?_ _) | (with_reducible refine Kd.C_drewN ?_ _) | (with_reducible refine Kd.C_drew ?_))); (case side4 => exact (Kd.R_reads' HO821.out).2.1); rintro e w' ⟨rfl, ⟨nd, rfl⟩⟩; (try first | exact ⟨rfl, _, World.drewN_drewN _ _ _⟩ | exact ⟨rfl, _, Eq.trans (World.drewN_drewN _ _ _) (congrArg (World.drewN _) (Nat.add_assoc _ _ _))⟩); obtain ⟨Ao119, co119, eo119⟩ := Kd.R_slice HO825.out; subst eo119; obtain ⟨Ao120, co120, eo120⟩ := Kd.S_slice HO829.out; subst eo120))
          go_ret
          exact ⟨by first | rfl | (simp [errW_none, errW_some] <;> rfl) | (simp [*, errW_none, errW_some] <;> rfl), by repeat (first | (with_reducible first | exact HB.out | apply below_alloc | apply pw_below_drewN | apply below_drew1) | exact HB.out)⟩
      · rw [if_neg c69] at H
        have c69b0 : (t823 == 2) = false := beq_eq_false_iff_ne.mpr c69
        have c69b1 : (t823 != 2) = true := bne_iff_ne.mpr c69
        obtain rfl := Option.some.inj H
        go_enter Tryd.func16, Tryd.ntmps16
        go_wp2_with (first | (go_at_call 17; (with_reducible refine (numnahlaw06_pairs.calls _ _ l1 t816 _ ?side1 ?side2 A4.out).mono ?_); (case side1 => repeat (first | exact HR1.out | (with_reducible refine Kd.C_alloc ?_ _) | (with_reducible refine Kd.C_drewN ?_ _) | (with_reducible refine Kd.C_drew ?_))); (case side2 => exact HC1.out); rintro e w121 ⟨v817, rfl, ho0, hb⟩; have n0_ := Aside0.mk (Kd.R_lower ho0 (below_size (by repeat (first | (with_reducible first | exact HB.out | apply below_alloc | apply pw_below_drewN | apply below_drew1) | exact HB.out)))); have n1_ := Aside0.mk (below_step (by repeat (first | (with_reducible first | exact HB.out | apply below_alloc | apply pw_below_drewN | apply below_drew1) | exact HB.out)) hb); clear HB; have HO818 := n0_; have HB := n1_; clear n0_ n1_; (try clear hb); (try clear hb2); (try clear hk); (try clear hi); (try clear ho0)) | (go_at_call 36; (with_reducible refine (numnahlaw06_list.calls _ _ l2 t819 _ ?side1 ?side2 A5.out).mono ?_); (case side1 => repeat (first | exact (Kd.C_below HR2.out HB.out) | (with_reducible refine Kd.C_alloc ?_ _) | (with_reducible refine Kd.C_drewN ?_ _) | (with_reducible refine Kd.C_drew ?_))); (case side2 => exact HC2.out); rintro e w122 ⟨v820, rfl, ho0, hb⟩; have n0_ := Aside0.mk (Kd.R_below (by (with_reducible repeat (first | apply Kd.R_alloc | apply Kd.R_drewN | apply Kd.R_drew)); exact HO818.out) hb); have n1_ := Aside0.mk (Kd.R_lower ho0 (below_size (by repeat (first | (with_reducible first | exact HB.out | apply below_alloc | apply pw_below_drewN | apply below_drew1) | exact HB.out)))); have n2_ := Aside0.mk (below_step (by repeat (first | (with_reducible first | exact HB.out | apply below_alloc | apply pw_below_drewN | apply below_drew1) | exact HB.out)) hb); clear HO818; clear HB; have HO818 := n0_; have HO821 := n1_; have HB := n2_; clear n0_ n1_ n2_; (try clear hb); (try clear hb2); (try clear hk); (try clear hi); (try clear ho0); obtain ⟨Ao123, co123, eo123⟩ := Kd.R_slice HO818.out; subst eo123; obtain ⟨Ao124, co124, eo124⟩ := Kd.R_slice HO821.out; subst eo124) | (go_at_call 54; (with_reducible refine (wetting_Chronicle.calls a0 _ _ t816 _ _ t819 t822 t823 _ ?side1 ?side2 ?side3 ?side4 A6.out ?sideT).mono ?_); (case sideT => exact tab_of (by repeat (first | (with_reducible first | exact HB.out | apply below_alloc | apply pw_below_drewN | apply below_drew1) | exact HB.out)) HT.out); (case side1 => repeat (first | exact (Kd.R_reads' HO818.out).2.2 | (with_reducible refine Kd.C_alloc ?_ _) | (with_reducible refine Kd.C_drewN ?_ _) | (with_reducible refine Kd.C_drew ?_))); (case side2 => exact (Kd.R_reads' HO818.out).2.1); (case side3 => repeat (first | exact (Kd.R_reads' HO821.out).2.2 | (with_reducible refine Kd.C_alloc ?_ _) | (with_reducible refine Kd.C_drewN ?_ _) | (with_reducible refine Kd.C_drew ?_))); (case side4 => exact (Kd.R_reads' HO821.out).2.1); rintro e w125 ⟨v824, rfl, ho0, hb⟩; have n0_ := Aside0.mk (Kd.R_elder' (by (with_reducible repeat (first | apply Kd.R_alloc | apply Kd.R_drewN | apply Kd.R_drew)); exact HO818.out) (Kd.R_base ho0) hb); have n1_ := Aside0.mk (Kd.R_below (by (with_reducible repeat (first | apply Kd.R_alloc | apply Kd.R_drewN | apply Kd.R_drew)); exact HO821.out) hb); have n2_ := Aside0.mk (Kd.R_lower (Kd.R_new' ho0 (Kd.R_lt (by (with_reducible repeat (first | apply Kd.R_alloc | apply Kd.R_drewN | apply Kd.R_drew)); exact HO818.out))) (below_size (by repeat (first | (with_reducible first | exact HB.out | apply below_alloc | apply pw_below_drewN | apply below_drew1) | exact HB.out)))); have n3_ := Aside0.mk (below_step (by repeat (first | (with_reducible first | exact HB.out | apply below_alloc | apply pw_below_drewN | apply below_drew1) | exact HB.out)) hb); clear HO818; clear HO821; clear HB; have HO818 := n0_; have HO821 := n1_; have HO825 := n2_; have HB := n3_; clear n0_ n1_ n2_ n3_; (try clear hb); (try clear hb2); (try clear hk); (try clear hi); (try clear ho0)) | (go_at_call 53; (with_reducible refine (wetting_Chains.calls a0 _ _ t816 _ _ t819 t826 t827 _ ?side1 ?side2 ?side3 ?side4 A7.out ?sideT).mono ?_); (case sideT => exact tab_of (by repeat (first | (with_reducible first | exact HB.out | apply below_alloc | apply pw_below_drewN | apply below_drew1) | exact HB.out)) HT.out); (case side1 => repeat (first | exact (Kd.R_reads' HO818.out).2.2 | (with_reducible refine Kd.C_alloc ?_ _) | (with_reducible refine Kd.C_drewN ?_ _) | (with_reducible refine Kd.C_drew ?_))); (case side2 => exact (Kd.R_reads' HO818.out).2.1); (case side3 => repeat (first | exact (Kd.R_reads' HO821.out).2.2 | (with_reducible refine Kd.C_alloc ?_ _) | (with_reducible refine Kd.C_drewN ?_ _) | (with_reducible refine Kd.C_drew ?_))); (case side4 => exact (Kd.R_reads' HO821.out).2.1); rintro e w126 ⟨v828, rfl, ho0, hb⟩; have n0_ := Aside0.mk (Kd.R_below (by (with_reducible repeat (first | apply Kd.R_alloc | apply Kd.R_drewN | apply Kd.R_drew)); exact HO818.out) hb); have n1_ := Aside0.mk (Kd.R_below (by (with_reducible repeat (first | apply Kd.R_alloc | apply Kd.R_drewN | apply Kd.R_drew)); exact HO821.out) hb); have n2_ := Aside0.mk (Kd.R_below (by (with_reducible repeat (first | apply Kd.R_alloc | apply Kd.R_drewN | apply Kd.R_drew)); exact HO825.out) hb); have n3_ := Aside0.mk (Kd.S_lower (Kd.S_new' ho0 (Kd.R_lt (by (with_reducible repeat (first | apply Kd.R_alloc | apply Kd.R_drewN | apply Kd.R_drew)); exact HO821.out))) (below_size (by repeat (first | (with_reducible first | exact HB.out | apply below_alloc | apply pw_below_drewN | apply below_drew1) | exact HB.out)))); have n4_ := Aside0.mk (below_step (by repeat (first | (with_reducible first | exact HB.out | apply below_alloc | apply pw_below_drewN | apply below_drew1) | exact HB.out)) hb); clear HO818; clear HO821; clear HO825; clear HB; have HO818 := n0_; have HO821 := n1_; have HO825 := n2_; have HO829 := n3_; have HB := n4_; clear n0_ n1_ n2_ n3_ n4_; (try clear hb); (try clear hb2); (try clear hk); (try clear hi); (try clear ho0)) | (go_at_call 31; (with_reducible refine (wetting_IsFort.calls a0 _ _ t816 _ _ t819 t830 t831 _ ?side1 ?side2 ?side3 ?side4 A8.out ?sideT).mono ?_); (case sideT => exact tab_of (by repeat (first | (with_reducible first | exact HB.out | apply below_alloc | apply pw_below_drewN | apply below_drew1) | exact HB.out)) HT.out); (case side1 => repeat (first | exact (Kd.R_reads' HO818.out).2.2 | (with_reducible refine Kd.C_alloc ?_ _) | (with_reducible refine Kd.C_drewN ?_ _) | (with_reducible refine Kd.C_drew ?_))); (case side2 => exact (Kd.R_reads' HO818.out).2.1); (case side3 => repeat (first | exact (Kd.R_reads' HO821.out).2.2 | (with_reducible refine Kd.C_alloc ?_ _) | (with_reducible refine Kd.C_drewN ?_ _) | (with_reducible refine Kd.C_drew ?_))); (case side4 => exact (Kd.R_reads' HO821.out).2.1); rintro e w127 ⟨rfl, hb⟩; have n0_ := Aside0.mk (Kd.R_below (by (with_reducible repeat (first | apply Kd.R_alloc | apply Kd.R_drewN | apply Kd.R_drew)); exact HO818.out) hb); have n1_ := Aside0.mk (Kd.R_below (by (with_reducible repeat (first | apply Kd.R_alloc | apply Kd.R_drewN | apply Kd.R_drew)); exact HO821.out) hb); have n2_ := Aside0.mk (Kd.R_below (by (with_reducible repeat (first | apply Kd.R_alloc | apply Kd.R_drewN | apply Kd.R_drew)); exact HO825.out) hb); have n3_ := Aside0.mk (Kd.S_below (by (with_reducible repeat (first | apply Kd.S_alloc | apply Kd.S_drewN | apply Kd.S_drew)); exact HO829.out) hb); have n4_ := Aside0.mk (below_step (by repeat (first | (with_reducible first | exact HB.out | apply below_alloc | apply pw_below_drewN | apply below_drew1) | exact HB.out)) hb); clear HO818; clear HO821; clear HO825; clear HO829; clear HB; have HO818 := n0_; have HO821 := n1_; have HO825 := n2_; have HO829 := n3_; have HB := n4_; clear n0_ n1_ n2_ n3_ n4_; (try clear hb); (try clear hb2); (try clear hk); (try clear hi)) | (go_at_call 39; (with_reducible refine (numnahlaw06_valid.calls k a0 _ _ t816 _ _ t819 false _ ?side1 ?side2 ?side3 ?side4 A9.out).mono ?_); (case side1 => repeat (first | exact (Kd.R_reads' HO818.out).2.2 | (with_reducible refine Kd.C_alloc ?_ _) | (with_reducible refine Kd.C_drewN ?_ _) | (with_reducible refine Kd.C_drew ?_))); (case side2 => exact (Kd.R_reads' HO818.out).2.1); (case side3 => repeat (first | exact (Kd.R_reads' HO821.out).2.2 | (with_reducible refine Kd.C_alloc ?_ _) | (with_reducible refine Kd.C_drewN ?_ _) | (with_reducible refine Kd.C_drew ?_))); (case side4 => exact (Kd.R_reads' HO821.out).2.1); rintro e w' ⟨rfl, ⟨nd, rfl⟩⟩; (try first | exact ⟨rfl, _, World.drewN_drewN _ _ _⟩ | exact ⟨rfl, _, Eq.trans (World.drewN_drewN _ _ _) (congrArg (World.drewN _) (Nat.add_assoc _ _ _))⟩); obtain ⟨Ao128, co128, eo128⟩ := Kd.R_slice HO825.out; subst eo128))
        go_ret
        exact ⟨by first | rfl | (simp [errW_none, errW_some] <;> rfl) | (simp [*, errW_none, errW_some] <;> rfl), by repeat (first | (with_reducible first | exact HB.out | apply below_alloc | apply pw_below_drewN | apply below_drew1) | exact HB.out)⟩
    · rw [if_neg c68] at H
      have c68b0 : ((t822.length : Int) == 0) = false := beq_eq_false_iff_ne.mpr c68
      have c68b1 : ((t822.length : Int) != 0) = true := bne_iff_ne.mpr c68
      have c68b2 : ¬ (t822 = []) := fun h_ => c68 (by rw [h_]; rfl)
      obtain rfl := Option.some.inj H
      go_enter Tryd.func16, Tryd.ntmps16
      go_wp2_with (first | (go_at_call 17; (with_reducible refine (numnahlaw06_pairs.calls _ _ l1 t816 _ ?side1 ?side2 A4.out).mono ?_); (case side1 => repeat (first | exact HR1.out | (with_reducible refine Kd.C_alloc ?_ _) | (with_reducible refine Kd.C_drewN ?_ _) | (with_reducible refine Kd.C_drew ?_))); (case side2 => exact HC1.out); rintro e w129 ⟨v817, rfl, ho0, hb⟩; have n0_ := Aside0.mk (Kd.R_lower ho0 (below_size (by repeat (first | (with_reducible first | exact HB.out | apply below_alloc | apply pw_below_drewN | apply below_drew1) | exact HB.out)))); have n1_ := Aside0.mk (below_step (by repeat (first | (with_reducible first | exact HB.out | apply below_alloc | apply pw_below_drewN | apply below_drew1) | exact HB.out)) hb); clear HB; have HO818 := n0_; have HB := n1_; clear n0_ n1_; (try clear hb); (try clear hb2); (try clear hk); (try clear hi); (try clear ho0)) | (go_at_call 36; (with_reducible refine (numnahlaw06_list.calls _ _ l2 t819 _ ?side1 ?side2 A5.out).mono ?_); (case side1 => repeat (first | exact (Kd.C_below HR2.out HB.out) | (with_reducible refine Kd.C_alloc ?_ _) | (with_reducible refine Kd.C_drewN ?_ _) | (with_reducible refine Kd.C_drew ?_))); (case side2 => exact HC2.out); rintro e w130 ⟨v820, rfl, ho0, hb⟩; have n0_ := Aside0.mk (Kd.R_below (by (with_reducible repeat (first | apply Kd.R_alloc | apply Kd.R_drewN | apply Kd.R_drew)); exact HO818.out) hb); have n1_ := Aside0.mk (Kd.R_lower ho0 (below_size (by repeat (first | (with_reducible first | exact HB.out | apply below_alloc | apply pw_below_drewN | apply below_drew1) | exact HB.out)))); have n2_ := Aside0.mk (below_step (by repeat (first | (with_reducible first | exact HB.out | apply below_alloc | apply pw_below_drewN | apply below_drew1) | exact HB.out)) hb); clear HO818; clear HB; have HO818 := n0_; have HO821 := n1_; have HB := n2_; clear n0_ n1_ n2_; (try clear hb); (try clear hb2); (try clear hk); (try clear hi); (try clear ho0); obtain ⟨Ao131, co131, eo131⟩ := Kd.R_slice HO818.out; subst eo131; obtain ⟨Ao132, co132, eo132⟩ := Kd.R_slice HO821.out; subst eo132) | (go_at_call 54; (with_reducible refine (wetting_Chronicle.calls a0 _ _ t816 _ _ t819 t822 t823 _ ?side1 ?side2 ?side3 ?side4 A6.out ?sideT).mono ?_); (case sideT => exact tab_of (by repeat (first | (with_reducible first | exact HB.out | apply below_alloc | apply pw_below_drewN | apply below_drew1) | exact HB.out)) HT.out); (case side1 => repeat (first | exact (Kd.R_reads' HO818.out).2.2 | (with_reducible refine Kd.C_alloc ?_ _) | (with_reducible refine Kd.C_drewN ?_ _) | (with_reducible refine Kd.C_drew ?_))); (case side2 => exact (Kd.R_reads' HO818.out).2.1); (case side3 => repeat (first | exact (Kd.R_reads' HO821.out).2.2 | (with_reducible refine Kd.C_alloc ?_ _) | (with_reducible refine Kd.C_drewN ?_ _) | (with_reducible refine Kd.C_drew ?_))); (case side4 => exact (Kd.R_reads' HO821.out).2.1); rintro e w133 ⟨v824, rfl, ho0, hb⟩; have n0_ := Aside0.mk (Kd.R_elder' (by (with_reducible repeat (first | apply Kd.R_alloc | apply Kd.R_drewN | apply Kd.R_drew)); exact HO818.out) (Kd.R_base ho0) hb); have n1_ := Aside0.mk (Kd.R_below (by (with_reducible repeat (first | apply Kd.R_alloc | apply Kd.R_drewN | apply Kd.R_drew)); exact HO821.out) hb); have n2_ := Aside0.mk (Kd.R_lower (Kd.R_new' ho0 (Kd.R_lt (by (with_reducible repeat (first | apply Kd.R_alloc | apply Kd.R_drewN | apply Kd.R_drew)); exact HO818.out))) (below_size (by repeat (first | (with_reducible first | exact HB.out | apply below_alloc | apply pw_below_drewN | apply below_drew1) | exact HB.out)))); have n3_ := Aside0.mk (below_step (by repeat (first | (with_reducible first | exact HB.out | apply below_alloc | apply pw_below_drewN | apply below_drew1) | exact HB.out)) hb); clear HO818; clear HO821; clear HB; have HO818 := n0_; have HO821 := n1_; have HO825 := n2_; have HB := n3_; clear n0_ n1_ n2_ n3_; (try clear hb); (try clear hb2); (try clear hk); (try clear hi); (try clear ho0)) | (go_at_call 53; (with_reducible refine (wetting_Chains.calls a0 _ _ t816 _ _ t819 t826 t827 _ ?side1 ?side2 ?side3 ?side4 A7.out ?sideT).mono ?_); (case sideT => exact tab_of (by repeat (first | (with_reducible first | exact HB.out | apply below_alloc | apply pw_below_drewN | apply below_drew1) | exact HB.out)) HT.out); (case side1 => repeat (first | exact (Kd.R_reads' HO818.out).2.2 | (with_reducible refine Kd.C_alloc ?_ _) | (with_reducible refine Kd.C_drewN ?_ _) | (with_reducible refine Kd.C_drew ?_))); (case side2 => exact (Kd.R_reads' HO818.out).2.1); (case side3 => repeat (first | exact (Kd.R_reads' HO821.out).2.2 | (with_reducible refine Kd.C_alloc ?_ _) | (with_reducible refine Kd.C_drewN ?_ _) | (with_reducible refine Kd.C_drew ?_))); (case side4 => exact (Kd.R_reads' HO821.out).2.1); rintro e w134 ⟨v828, rfl, ho0, hb⟩; have n0_ := Aside0.mk (Kd.R_below (by (with_reducible repeat (first | apply Kd.R_alloc | apply Kd.R_drewN | apply Kd.R_drew)); exact HO818.out) hb); have n1_ := Aside0.mk (Kd.R_below (by (with_reducible repeat (first | apply Kd.R_alloc | apply Kd.R_drewN | apply Kd.R_drew)); exact HO821.out) hb); have n2_ := Aside0.mk (Kd.R_below (by (with_reducible repeat (first | apply Kd.R_alloc | apply Kd.R_drewN | apply Kd.R_drew)); exact HO825.out) hb); have n3_ := Aside0.mk (Kd.S_lower (Kd.S_new' ho0 (Kd.R_lt (by (with_reducible repeat (first | apply Kd.R_alloc | apply Kd.R_drewN | apply Kd.R_drew)); exact HO821.out))) (below_size (by repeat (first | (with_reducible first | exact HB.out | apply below_alloc | apply pw_below_drewN | apply below_drew1) | exact HB.out)))); have n4_ := Aside0.mk (below_step (by repeat (first | (with_reducible first | exact HB.out | apply below_alloc | apply pw_below_drewN | apply below_drew1) | exact HB.out)) hb); clear HO818; clear HO821; clear HO825; clear HB; have HO818 := n0_; have HO821 := n1_; have HO825 := n2_; have HO829 := n3_; have HB := n4_; clear n0_ n1_ n2_ n3_ n4_; (try clear hb); (try clear hb2); (try clear hk); (try clear hi); (try clear ho0)) | (go_at_call 31; (with_reducible refine (wetting_IsFort.calls a0 _ _ t816 _ _ t819 t830 t831 _ ?side1 ?side2 ?side3 ?side4 A8.out ?sideT).mono ?_); (case sideT => exact tab_of (by repeat (first | (with_reducible first | exact HB.out | apply below_alloc | apply pw_below_drewN | apply below_drew1) | exact HB.out)) HT.out); (case side1 => repeat (first | exact (Kd.R_reads' HO818.out).2.2 | (with_reducible refine Kd.C_alloc ?_ _) | (with_reducible refine Kd.C_drewN ?_ _) | (with_reducible refine Kd.C_drew ?_))); (case side2 => exact (Kd.R_reads' HO818.out).2.1); (case side3 => repeat (first | exact (Kd.R_reads' HO821.out).2.2 | (with_reducible refine Kd.C_alloc ?_ _) | (with_reducible refine Kd.C_drewN ?_ _) | (with_reducible refine Kd.C_drew ?_))); (case side4 => exact (Kd.R_reads' HO821.out).2.1); rintro e w135 ⟨rfl, hb⟩; have n0_ := Aside0.mk (Kd.R_below (by (with_reducible repeat (first | apply Kd.R_alloc | apply Kd.R_drewN | apply Kd.R_drew)); exact HO818.out) hb); have n1_ := Aside0.mk (Kd.R_below (by (with_reducible repeat (first | apply Kd.R_alloc | apply Kd.R_drewN | apply Kd.R_drew)); exact HO821.out) hb); have n2_ := Aside0.mk (Kd.R_below (by (with_reducible repeat (first | apply Kd.R_alloc | apply Kd.R_drewN | apply Kd.R_drew)); exact HO825.out) hb); have n3_ := Aside0.mk (Kd.S_below (by (with_reducible repeat (first | apply Kd.S_alloc | apply Kd.S_drewN | apply Kd.S_drew)); exact HO829.out) hb); have n4_ := Aside0.mk (below_step (by repeat (first | (with_reducible first | exact HB.out | apply below_alloc | apply pw_below_drewN | apply below_drew1) | exact HB.out)) hb); clear HO818; clear HO821; clear HO825; clear HO829; clear HB; have HO818 := n0_; have HO821 := n1_; have HO825 := n2_; have HO829 := n3_; have HB := n4_; clear n0_ n1_ n2_ n3_ n4_; (try clear hb); (try clear hb2); (try clear hk); (try clear hi)) | (go_at_call 39; (with_reducible refine (numnahlaw06_valid.calls k a0 _ _ t816 _ _ t819 false _ ?side1 ?side2 ?side3 ?side4 A9.out).mono ?_); (case side1 => repeat (first | exact (Kd.R_reads' HO818.out).2.2 | (with_reducible refine Kd.C_alloc ?_ _) | (with_reducible refine Kd.C_drewN ?_ _) | (with_reducible refine Kd.C_drew ?_))); (case side2 => exact (Kd.R_reads' HO818.out).2.1); (case side3 => repeat (first | exact (Kd.R_reads' HO821.out).2.2 | (with_reducible refine Kd.C_alloc ?_ _) | (with_reducible refine Kd.C_drewN ?_ _) | (with_reducible refine Kd.C_drew ?_))); (case side4 => exact (Kd.R_reads' HO821.out).2.1); rintro e w' ⟨rfl, ⟨nd, rfl⟩⟩; (try first | exact ⟨rfl, _, World.drewN_drewN _ _ _⟩ | exact ⟨rfl, _, Eq.trans (World.drewN_drewN _ _ _) (congrArg (World.drewN _) (Nat.add_assoc _ _ _))⟩); obtain ⟨Ao136, co136, eo136⟩ := Kd.R_slice HO825.out; subst eo136))
      go_ret
      exact ⟨by first | rfl | (simp [errW_none, errW_some] <;> rfl) | (simp [*, errW_none, errW_some] <;> rfl), by repeat (first | (with_reducible first | exact HB.out | apply below_alloc | apply pw_below_drewN | apply below_drew1) | exact HB.out)⟩
end Go.Proofs.YtpbeaaihdmfnlaaDoor.G

/- ### LChronicles -/
namespace Go.Proofs.YtpbeaaihdmfnlaaDoor.P
open Go Go.RowKit Go.Proofs.YtpbeaaihdmfnlaaDoor.M Go.Proofs.YtpbeaaihdmfnlaaDoor.H Go.Proofs.YtpbeaaihdmfnlaaDoor.G
open Go.Proofs.YtpbeaaihdmfnlaaDoorW.PrintWords Go.Proofs.YtpbeaaihdmfnlaaDoorW.PrintMore
section
variable {near : Nat → Nat} {n : Nat}
theorem chains_l3 {u v wet : Nat} {out : List (List Nat)} (hb : ∀ c ∈ out, c ≠ [] ∧ c.length ≤ 12) (ho : out.length ≤ 64) (x0 : List Int) {r : List (List Int)}
    (h : Ev (fun k => numnahref06_Chains.l1 k x0 (wet : Int) ((out.map (growN · (u, v))).map natsI)) r) : ∀ (d i : Nat), i + d = out.length →
    Ev (fun k => numnahref06_Chains.l3 k x0 (wet : Int) (((out.take i).map (growN · (u, v)) ++ out.drop i).map natsI) (u : Int) (v : Int) (i : Int)) r := by
  intro d
  induction d with
  | zero =>
    intro i hi
    rw [List.take_of_length_le (by omega), List.drop_eq_nil_of_le (by omega), List.append_nil]
    refine Ev.step (fun k => ?_) h
    simp only [numnahref06_Chains.l3]
    rw [if_neg (by simp; omega)]
  | succ d ih =>
    intro i hi
    have hil : i < out.length := by omega
    have next := ih (i + 1) (by omega)
    obtain ⟨M, hM⟩ : ∃ M, (out.take i).map (growN · (u, v)) ++ out.drop i = M := ⟨_, rfl⟩
    have hpl : ((out.take i).map (growN · (u, v))).length = i := by rw [List.length_map, List.length_take]; omega
    have hMl : M.length = out.length := by rw [← hM, List.length_append, hpl, List.length_drop]; omega
    have hMi : M[i]'(by omega) = out[i] := by
      subst hM
      rw [List.getElem_append_right (by omega), List.getElem_drop]
      congr 1
      omega
    have hset : (out.take (i + 1)).map (growN · (u, v)) ++ out.drop (i + 1) = M.set i (growN out[i] (u, v)) := by
      rw [← hM, List.take_succ_eq_append_getElem hil, List.map_append, List.set_append, if_neg (by omega), hpl, Nat.sub_self, List.drop_eq_getElem_cons hil, List.append_assoc]
      rfl
    rw [hset] at next
    rw [hM]
    have hMM : (M.map natsI).length = out.length := by rw [List.length_map]; exact hMl
    have hrd := rd_M (M := M) (i := i) (by omega)
    rw [hMi] at hrd
    obtain ⟨hne, hle⟩ := hb out[i] (List.getElem_mem hil)
    obtain ⟨e1, e2⟩ := last_rd hne (by omega)
    have hp := List.length_pos_iff.2 hne
    have hl? := List.getLast?_eq_some_getLast hne
    by_cases e : out[i].getLast hne = u
    · have hg : growN out[i] (u, v) = out[i] ++ [v] := by unfold growN; rw [hl?, e, if_pos rfl]
      rw [hg] at next
      refine Ev.step (fun k => ?_) next
      simp only [numnahref06_Chains.l3]
      rw [hMM, if_pos (by omega), if_pos (by omega), hrd, e1, if_pos (by omega), natsI_length, if_pos (by omega), e2, if_pos (by omega), if_pos (by omega), wrap_succ (by omega), Int.toNat_natCast, List.map_set]
      congr 2
      unfold natsI; rw [List.map_append]; rfl
    · have hg : growN out[i] (u, v) = out[i] := by
        unfold growN; rw [hl?, if_neg]
        intro h; exact e (Option.some.inj h)
      rw [hg] at next
      have hs2 : M.set i out[i] = M := by rw [← hMi]; exact List.set_getElem_self _
      rw [hs2] at next
      refine Ev.step (fun k => ?_) next
      simp only [numnahref06_Chains.l3]
      rw [hMM, if_pos (by omega), if_pos (by omega), hrd, e1, if_pos (by omega), natsI_length, if_pos (by omega), e2, if_neg (by omega), wrap_succ (by omega)]
theorem find_first {s v : Nat} (h : nextM near s = some v) : ∀ x, x < v → s.testBit x = true → card (andNot (near x) s) ≠ 1 := by
  intro x hx hb
  obtain ⟨_, l1, l2, hl, ha⟩ := List.find?_eq_some_iff_append.1 h
  have hso := bitsOf_sorted s
  have hvm : v < 64 := by
    have : v ∈ bitsOf s := by rw [hl]; simp
    exact (mem_bitsOf.1 this).1
  have hm : x ∈ bitsOf s := mem_bitsOf.2 ⟨by omega, hb⟩
  rw [hl] at hm hso
  rw [List.pairwise_append, List.pairwise_cons] at hso
  rcases List.mem_append.1 hm with hm | hm
  · have := ha x hm
    unfold canForce at this
    simpa using this
  · rcases List.mem_cons.1 hm with rfl | hm
    · omega
    · have := hso.2.1.1 x hm
      omega
theorem chains_l2 (hn : n ≤ 12) (hr : ∀ v, near v < 2 ^ n) {s v : Nat} (hs : s < 2 ^ n) (hx : nextM near s = some v) {x5 r : List (List Int)}
    (h : Ev (fun k => numnahref06_Chains.l3 k (R near n) ((s ||| 2 ^ low (andNot (near v) s) : Nat) : Int) x5 (v : Int) ((low (andNot (near v) s) : Nat) : Int) 0) r) : ∀ (d i : Nat), i + d = v →
    Ev (fun k => numnahref06_Chains.l2 k (R near n) (s : Int) x5 (i : Int)) r := by
  have h12 := p12 hn
  have hs' : s < 4096 := by omega
  obtain ⟨h1, h2, h3, h4⟩ := one_force hn hr hx
  have hv : v < n := bit_lt hs h1
  intro d
  induction d with
  | zero =>
    intro i hi
    have hi' : i = v := by omega
    subst hi'
    have ha : andNot (near i) s < 4096 := Nat.lt_of_lt_of_le (andNot_lt (hr i)) h12
    have hna : near i < 4096 := Nat.lt_of_lt_of_le (hr i) h12
    obtain ⟨_, e1, e2, e3⟩ := one_low (Nat.lt_of_lt_of_le ha (by decide)) (next_facts hn hr hx).2.1
    have hpw : 2 ^ low (andNot (near i) s) < 4096 := by rw [← h2]; exact ha
    refine Ev.step (f := fun k => (numnahref06_Count.f k ((andNot (near i) s : Nat) : Int)).bind fun t802 => (if t802 = 1 then ((numnahref06_List.f k ((andNot (near i) s : Nat) : Int)).bind fun t804 => (if 0 < (t804.length : Int) then (if 0 ≤ (rd t804 0) then (numnahref06_Chains.l3 k (R near n) (Go.bits .or .i64 (s : Int) (shl .i64 1 (rd t804 0))) x5 (i : Int) (rd t804 0) 0) else (none)) else (none))) else (numnahref06_Chains.l2 k (R near n) (s : Int) x5 ((i + 1 : Nat) : Int)))) (fun k => ?_) ?_
    · simp only [numnahref06_Chains.l2]
      rw [if_pos (by omega), tmod_bit (by omega), h1, if_neg (by simp), R_length, if_pos (by omega), rd_R hv, andN hna, wrap_succ (by omega)]
    · refine Ev.bind (ev_count ha) ?_
      refine Ev.congr (fun k => if_pos (by rw [(next_facts hn hr hx).2.1]; rfl)) ?_
      refine Ev.bind (ev_list ha) ?_
      rw [e3]
      have e4 : rd (natsI [low (andNot (near i) s)]) 0 = ((low (andNot (near i) s) : Nat) : Int) := rfl
      have e5 : 0 < ((natsI [low (andNot (near i) s)]).length : Int) := by simp [natsI]
      rw [e4]
      refine Ev.congr (fun k => by rw [if_pos e5, if_pos (by omega), shl_i (by omega), orI hs' hpw]) h
  | succ d ih =>
    intro i hi
    have next := ih (i + 1) (by omega)
    have hna : near i < 4096 := Nat.lt_of_lt_of_le (hr i) h12
    have ha : andNot (near i) s < 4096 := Nat.lt_of_lt_of_le (andNot_lt (hr i)) h12
    cases hb : s.testBit i with
    | false =>
      refine Ev.step (fun k => ?_) next
      simp only [numnahref06_Chains.l2]
      rw [if_pos (by omega), tmod_bit (by omega), hb, if_pos (by simp), wrap_succ (by omega)]
    | true =>
      have hc := find_first hx i (by omega) hb
      refine Ev.step (f := fun k => (numnahref06_Count.f k ((andNot (near i) s : Nat) : Int)).bind fun t802 => (if t802 = 1 then ((numnahref06_List.f k ((andNot (near i) s : Nat) : Int)).bind fun t804 => (if 0 < (t804.length : Int) then (if 0 ≤ (rd t804 0) then (numnahref06_Chains.l3 k (R near n) (Go.bits .or .i64 (s : Int) (shl .i64 1 (rd t804 0))) x5 (i : Int) (rd t804 0) 0) else (none)) else (none))) else (numnahref06_Chains.l2 k (R near n) (s : Int) x5 ((i + 1 : Nat) : Int)))) (fun k => ?_) ?_
      · simp only [numnahref06_Chains.l2]
        rw [if_pos (by omega), tmod_bit (by omega), hb, if_neg (by simp), R_length, if_pos (by omega), rd_R (by omega), andN hna, wrap_succ (by omega)]
      · refine Ev.bind (ev_count ha) ?_
        exact Ev.congr (fun k => if_neg (by omega)) next
theorem chains_l1 (hn : n ≤ 12) (hr : ∀ v, near v < 2 ^ n) (sym : ∀ a b, (near a).testBit b = true → (near b).testBit a = true) {s0 : Nat} : ∀ (k s : Nat) (out : List (List Nat)), s < 2 ^ n → ChInv near s0 s out → (chronL near k s).2 = full n →
    Ev (fun k => numnahref06_Chains.l1 k (R near n) (s : Int) (out.map natsI)) ((out.map fun c => (chronL near k s).1.foldl growN c).map natsI) := by
  have stop : ∀ (out : List (List Nat)), Ev (fun k => numnahref06_Chains.l1 k (R near n) ((full n : Nat) : Int) (out.map natsI)) ((out.map fun c => ([] : List (Nat × Nat)).foldl growN c).map natsI) := by
    intro out
    simp only [List.foldl_nil, List.map_id']
    refine Ev.step (f := fun _ => some (out.map natsI)) (fun k => ?_) (Ev.now _)
    simp only [numnahref06_Chains.l1]
    rw [all_ref hn, Option.bind_some, if_pos rfl]
  intro k
  induction k with
  | zero =>
    intro s out _ _ h
    have h' : s = full n := h
    subst h'
    exact stop out
  | succ k ih =>
    intro s out hs hI h
    rw [chronL] at h ⊢
    cases hx : nextM near s with
    | none =>
      rw [hx] at h
      have h' : s = full n := h
      subst h'
      exact stop out
    | some v =>
      rw [hx] at h
      dsimp only at h ⊢
      obtain ⟨h1, h2, h3, h4⟩ := one_force hn hr hx
      have hne : s ≠ full n := by
        rintro rfl
        rw [testBit_full, decide_eq_true h4] at h3; cases h3
      have hb := hI.bound hs
      have next := ih _ _ (Nat.or_lt_two_pow hs (Nat.pow_lt_pow_right (by decide) h4)) (hI.step sym h1 h2 h3) h
      have e : ((out.map (growN · (v, low (andNot (near v) s)))).map fun c => (chronL near k (s ||| 2 ^ low (andNot (near v) s))).1.foldl growN c) = out.map fun c => ((v, low (andNot (near v) s)) :: (chronL near k (s ||| 2 ^ low (andNot (near v) s))).1).foldl growN c := by
        rw [List.map_map]; rfl
      rw [e] at next
      refine Ev.step (f := fun k => numnahref06_Chains.l2 k (R near n) (s : Int) (out.map natsI) 0) (fun k => ?_) ?_
      · simp only [numnahref06_Chains.l1]
        rw [all_ref hn, Option.bind_some, if_neg (by omega)]
      · refine chains_l2 hn hr hs hx ?_ v 0 (by omega)
        have hlen : out.length ≤ 64 := by rw [hI.length]; exact Nat.le_trans (List.length_filter_le _ _) (by simp)
        exact chains_l3 (out := out) (fun c hc => ⟨(hb c hc).1, by have := (hb c hc).2.2.1; omega⟩) hlen (R near n) next out.length 0 (by omega)
theorem chains_l0 (x0 : List Int) (l : List Nat) (s : Nat) {r : List (List Int)} (hl : l.length ≤ 64) (h : Ev (fun k => numnahref06_Chains.l1 k x0 (s : Int) ((l.map fun v => [v]).map natsI)) r) : ∀ (d i : Nat), i + d = l.length →
    Ev (fun k => numnahref06_Chains.l0 k x0 (s : Int) (((l.take i).map fun v => [v]).map natsI) (natsI l) (i : Int)) r := by
  intro d
  induction d with
  | zero =>
    intro i hi
    rw [List.take_of_length_le (by omega)]
    refine Ev.step (fun k => ?_) h
    simp only [numnahref06_Chains.l0]
    rw [if_neg (by rw [natsI_length]; omega)]
  | succ d ih =>
    intro i hi
    have hil : i < l.length := by omega
    refine Ev.step (fun k => ?_) (ih (i + 1) (by omega))
    simp only [numnahref06_Chains.l0]
    rw [if_pos (by rw [natsI_length]; omega), if_pos (by omega), if_pos (by rw [List.length_map, List.length_map, List.length_take]; omega), wrap_succ (by omega), rd_nats hil, List.take_succ_eq_append_getElem hil, List.map_append, List.map_append]
    rfl
theorem ev_chains (hn : n ≤ 12) (hr : ∀ v, near v < 2 ^ n) (sym : ∀ a b, (near a).testBit b = true → (near b).testBit a = true) {s : Nat} (hs : s < 2 ^ n) (hf : cl (forcedM near) n s = full n) :
    Ev (fun k => numnahref06_Chains.f k (R near n) (s : Int)) ((chainsN near n s).map natsI) := by
  have hs' : s < 4096 := Nat.lt_of_lt_of_le hs (p12 hn)
  refine Ev.congr (f := fun k => (numnahref06_List.f k (s : Int)).bind fun t790 => (numnahref06_Chains.l0 k (R near n) (s : Int) ([] : List (List Int)) t790 0)) (fun k => by simp only [numnahref06_Chains.f]) ?_
  refine Ev.bind (ev_list hs') ?_
  refine chains_l0 (R near n) (bitsOf s) s (Nat.le_trans (List.length_filter_le _ _) (by simp)) ?_ (bitsOf s).length 0 (by omega)
  have := chains_l1 hn hr sym (2 ^ n - s) s _ hs (ChInv.start (lt64 hn hs)) (by rw [chron_cl hn hr hs]; exact hf)
  have e : (((bitsOf s).map fun v => [v]).map fun c => (chronL near (2 ^ n - s) s).1.foldl growN c) = chainsN near n s := by
    unfold chainsN; rw [List.map_map]; rfl
  rw [e] at this
  exact this
end
theorem chronicles_l0 (M : List (List Nat)) (hM : M.length ≤ 64) (hb : ∀ c ∈ M, c.length ≤ 12) : ∀ (d i : Nat), i + d = M.length → Ev (fun k => numnahlaw06_WettingChronicles.l0 k (M.map natsI) (M.map natsI) (i : Int)) true := by
  intro d
  induction d with
  | zero =>
    intro i hi
    refine Ev.step (fun k => ?_) ev_awake
    simp only [numnahlaw06_WettingChronicles.l0]
    rw [if_neg (by rw [List.length_map]; omega)]
  | succ d ih =>
    intro i hi
    have hil : i < M.length := by omega
    refine Ev.step (f := fun k => (numnahlaw06_ints.f k (natsI M[i]) (natsI M[i])).bind fun t855 => (if t855 = true then (numnahlaw06_WettingChronicles.l0 k (M.map natsI) (M.map natsI) ((i + 1 : Nat) : Int)) else (some false))) (fun k => ?_) ?_
    · simp only [numnahlaw06_WettingChronicles.l0]
      rw [List.length_map, if_pos (by omega), if_pos (by omega), if_pos (by omega), rd_M hil, wrap_succ (by omega)]
    · refine Ev.bind (ev_ints (by rw [natsI_length]; have := hb M[i] (List.getElem_mem hil); omega)) ?_
      rw [decide_eq_true rfl]
      exact ih (i + 1) (by omega)
theorem chronicles_pure (a0 : Int) (ha : inI a0) (l : List S48) (_ : fitL l) (s : List Int) (_ : fitL s) : ∃ k, numnahlaw06_WettingChronicles.f k a0 l s = some true := by
  have hl : (l.take 80).length ≤ 80 := by rw [List.length_take]; omega
  have hs : (s.take 13).length ≤ 13 := by rw [List.length_take]; omega
  have f1 : wetting_Chronicle.f a0 (l.take 80) (s.take 13) = some (chronX a0 (l.take 80) (s.take 13)) := by unfold wetting_Chronicle.f; rw [if_pos ⟨ha, fit_small (by omega), fit_small (by omega)⟩]
  have f2 : wetting_Chains.f a0 (l.take 80) (s.take 13) = some (chainsX a0 (l.take 80) (s.take 13)) := by unfold wetting_Chains.f; rw [if_pos ⟨ha, fit_small (by omega), fit_small (by omega)⟩]
  have f3 : wetting_IsFort.f a0 (l.take 80) (s.take 13) = some (isFortX a0 (l.take 80) (s.take 13)) := by unfold wetting_IsFort.f; rw [if_pos ⟨ha, fit_small (by omega), fit_small (by omega)⟩]
  refine Ev.rounds ?_
  simp only [numnahlaw06_WettingChronicles.f, pairs_f, list_f, f1, f2, f3, Option.bind_some]
  generalize l.take 80 = l at hl ⊢
  generalize s.take 13 = s at hs ⊢
  rcases valid_cases a0 (l := l) (s := s) (by omega) (by omega) with ⟨n, t, rfl, hg, ht, rfl, hb, hv⟩ | ⟨hb, hv⟩
  · have ht' := Nat.lt_of_lt_of_le ht (p12 hg.le)
    refine Ev.bind hv ?_
    simp only [if_true, near_ref hg (fit_small (by omega)), Option.bind_some]
    have g := good_forced hg.lt
    have e1 : chronX (n : Int) l (natsI (bitsOf t)) = ((chronL (nearOf l) (2 ^ n - t) t).1.map toS, 0) := by unfold chronX; rw [hb]
    have e2 := chainsX_of hg hb ht
    have e3 : isFortX (n : Int) l (natsI (bitsOf t)) = (fortM n (nearOf l) t, 0) := by unfold isFortX; rw [hb]
    have hsz : ((chronL (nearOf l) (2 ^ n - t) t).1.map toS).length < 9223372036854775808 := by
      rw [List.length_map]
      have := chronL_len (nearOf l) (2 ^ n - t) t
      have := p12 hg.le
      omega
    obtain ⟨k1, k2⟩ := chron_check hg.le hg.lt (2 ^ n - t) t ht
    rw [chron_cl hg.le hg.lt ht] at k2
    have hch := ev_chron hg.le hg.lt hsz ht
    rw [if_pos k1, k2] at hch
    rw [e1, e3]
    refine Ev.bind (ev_set ht') ?_
    refine Ev.bind (ev_close hg.le hg.lt ht) ?_
    refine Ev.bind (ev_set ht') ?_
    refine Ev.bind hch ?_
    refine Ev.congr (fun k => (if_pos rfl).trans ((if_pos rfl).trans (if_pos rfl))) ?_
    refine Ev.bind (ev_set ht') ?_
    refine Ev.bind (ev_fort hg.le hg.lt ht) ?_
    have e4 : (fortM n (nearOf l) t != fortM n (nearOf l) t) = false := by simp
    rw [e4]
    refine Ev.congr (fun k => if_neg (by simp)) ?_
    have e5 : ((0 : Int) != 0) = false := by decide
    rw [e5]
    refine Ev.step (f := fun k => (numnahref06_All.f (R (nearOf l) n)).bind fun t847 => (if ((cl (forcedM (nearOf l)) n t : Nat) : Int) = t847 then ((numnahref06_Set.f k (natsI (bitsOf t))).bind fun t849 => ((numnahref06_Chains.f k (R (nearOf l) n) t849).bind fun t850 => (if ((chainsX (n : Int) l (natsI (bitsOf t))).1.length : Int) = (t850.length : Int) then (numnahlaw06_WettingChronicles.j1 k (chainsX (n : Int) l (natsI (bitsOf t))).1 t850 ((chainsX (n : Int) l (natsI (bitsOf t))).2 != 0)) else (numnahlaw06_WettingChronicles.j1 k (chainsX (n : Int) l (natsI (bitsOf t))).1 t850 true)))) else (if ((chainsX (n : Int) l (natsI (bitsOf t))).1.length : Int) = 0 then (if (chainsX (n : Int) l (natsI (bitsOf t))).2 = 6 then ((numnahlaw06_awake.f).bind fun t848 => (some t848)) else (some false)) else (some false)))) (fun k => by simp only [numnahlaw06_WettingChronicles.j0]; rfl) ?_
    rw [all_ref hg.le, e2]
    simp only [Option.bind_some]
    by_cases hf : cl (forcedM (nearOf l)) n t = full n
    · simp only [if_pos hf]
      refine Ev.congr (fun k => if_pos (by rw [hf])) ?_
      refine Ev.bind (ev_set ht') ?_
      refine Ev.bind (ev_chains hg.le hg.lt (fun _ _ h => hg.sym h) ht hf) ?_
      refine Ev.congr (fun k => if_pos rfl) ?_
      rw [e5]
      have hI := chains_inv hg.le hg.lt (fun _ _ h => hg.sym h) ht
      have hbd := hI.bound (cl_lt g ht)
      refine Ev.step (fun k => ?_) (chronicles_l0 (chainsN (nearOf l) n t) (by rw [hI.length]; exact Nat.le_trans (List.length_filter_le _ _) (by simp)) (fun c hc => by have := (hbd c hc).2.2.1; have := hg.le; omega) (chainsN (nearOf l) n t).length 0 (by omega))
      simp only [numnahlaw06_WettingChronicles.j1]
      rw [if_neg (by simp)]
      rfl
    · simp only [if_neg hf]
      refine Ev.congr (fun k => if_neg (by omega)) ?_
      exact ev_awake
  · refine Ev.bind hv ?_
    have e1 : chronX a0 l s = ([], 2) := by unfold chronX; rw [hb]
    have e2 : chainsX a0 l s = ([], 2) := by unfold chainsX; rw [hb]
    have e3 : isFortX a0 l s = (false, 2) := by unfold isFortX; rw [hb]
    rw [e1, e2, e3]
    exact ev_awake
end Go.Proofs.YtpbeaaihdmfnlaaDoor.P
