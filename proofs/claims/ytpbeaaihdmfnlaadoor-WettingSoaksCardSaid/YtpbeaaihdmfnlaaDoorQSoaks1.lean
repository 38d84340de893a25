/- Several texts, joined. -/
import Derived.Test.YtpbeaaihdmfnlaaDoorQB6
namespace Go.Proofs.YtpbeaaihdmfnlaaDoor.G
end Go.Proofs.YtpbeaaihdmfnlaaDoor.G
namespace Go.Proofs.YtpbeaaihdmfnlaaDoor.H
end Go.Proofs.YtpbeaaihdmfnlaaDoor.H
namespace Go.Proofs.YtpbeaaihdmfnlaaDoor.M
end Go.Proofs.YtpbeaaihdmfnlaaDoor.M
namespace Go.Proofs.YtpbeaaihdmfnlaaDoor.Row
end Go.Proofs.YtpbeaaihdmfnlaaDoor.Row
namespace Go.Proofs.YtpbeaaihdmfnlaaDoorW.PrintLast
end Go.Proofs.YtpbeaaihdmfnlaaDoorW.PrintLast
namespace Go.Proofs.YtpbeaaihdmfnlaaDoorW.PrintMore
end Go.Proofs.YtpbeaaihdmfnlaaDoorW.PrintMore
namespace Go.Proofs.YtpbeaaihdmfnlaaDoorW.PrintWords
end Go.Proofs.YtpbeaaihdmfnlaaDoorW.PrintWords

/- ### Gx20 -/
-- Written by a program for this seat: plain functions and their walks.
namespace Go.Proofs.YtpbeaaihdmfnlaaDoor.G
open Go.RowKit Go.Proofs.YtpbeaaihdmfnlaaDoor.H Go.Proofs.YtpbeaaihdmfnlaaDoorW.PrintWords Go.Proofs.YtpbeaaihdmfnlaaDoorW.PrintLast Go.Proofs.YtpbeaaihdmfnlaaDoorW.PrintMore
attribute [local go_sem] max2_int min2_int max_two min_two max_three min_three max_four min_four   -- for this text's walks alone
set_option linter.unusedVariables false
set_option linter.unusedSimpArgs false

/-! ### numnahlaw06_WettingSoaks: function 12 -/
mutual
def numnahlaw06_WettingSoaks.j0 : Nat → Int → List (S48) → Int → List Int → Option (Bool)
 | 0, _, _, _, _ => none
 | k + 1, x0, x7, x8, x9 => (wetting_Soak.f x0 x7 x9 x8).bind fun bt621 => ((wetting_Shelter.f x0 x7 x9 x8).bind fun bt626 => ((numnahlaw06_valid.f k x0 x7 x9).bind fun t630 => (if t630 = true then ((numnahlaw06_threshold.f x8).bind fun t631 => (numnahlaw06_WettingSoaks.j1 k x0 x7 x8 x9 bt621.1 bt621.2.1 bt621.2.2 bt626.1 bt626.2 (!t631))) else (numnahlaw06_WettingSoaks.j1 k x0 x7 x8 x9 bt621.1 bt621.2.1 bt621.2.2 bt626.1 bt626.2 true))))
def numnahlaw06_WettingSoaks.j1 : Nat → Int → List (S48) → Int → List Int → List Int → Int → Int → List Int → Int → Bool → Option (Bool)
 | 0, _, _, _, _, _, _, _, _, _, _ => none
 | k + 1, x0, x7, x8, x9, x10, x11, x12, x13, x14, x56 => if x56 = true then (if (x10.length : Int) = 0 then (if x11 = 0 then (if x12 = 2 then (if (x13.length : Int) = 0 then (if x14 = 2 then ((numnahlaw06_awake.f).bind fun t632 => (some t632)) else (some false)) else (some false)) else (some false)) else (some false)) else (some false)) else ((numnahref06_Near.f x0 x7).bind fun t633 => ((numnahref06_Set.f k x9).bind fun t636 => ((numnahref06_Soak.f k t633 t636 x8).bind fun bt637 => ((numnahref06_List.f k bt637.1).bind fun t639 => ((numnahlaw06_ints.f k x10 t639).bind fun t642 => (if t642 = true then (if x11 = bt637.2 then (numnahlaw06_WettingSoaks.j2 k x13 x14 t633 bt637.1 (x12 != 0)) else (numnahlaw06_WettingSoaks.j2 k x13 x14 t633 bt637.1 true)) else (numnahlaw06_WettingSoaks.j2 k x13 x14 t633 bt637.1 true)))))))
def numnahlaw06_WettingSoaks.j2 : Nat → List Int → Int → List Int → Int → Bool → Option (Bool)
 | 0, _, _, _, _, _ => none
 | k + 1, x13, x14, x15, x16, x104 => if x104 = true then (some false) else ((numnahref06_All.f x15).bind fun t643 => (if x16 = t643 then (if (x13.length : Int) = 0 then (if x14 = 6 then ((numnahlaw06_awake.f).bind fun t644 => (some t644)) else (some false)) else (some false)) else ((numnahref06_All.f x15).bind fun t645 => ((numnahref06_List.f k (wrap64 (t645 - x16))).bind fun t646 => ((numnahlaw06_ints.f k x13 t646).bind fun t649 => (if t649 = true then (if x14 = 0 then ((numnahlaw06_awake.f).bind fun t650 => (some t650)) else (some false)) else (some false)))))))
end
def numnahlaw06_WettingSoaks.f (k : Nat) (a0 : Int) (l1 : List (S48)) (l2 : List Int) : Option (Bool) := (numnahlaw06_pairs.f l1).bind fun t611 => ((numnahlaw06_list.f l2).bind fun t614 => (if (t614.length : Int) > 0 then (if 0 < (t614.length : Int) then (if 1 ≤ (t614.length : Int) then (numnahlaw06_WettingSoaks.j0 k a0 t611 (rd t614 0) (t614.drop (1 : Int).toNat)) else (none)) else (none)) else (numnahlaw06_WettingSoaks.j0 k a0 t611 1 t614)))
theorem numnahlaw06_WettingSoaks.mono_l : ∀ k, (∀ y0 y1 y2 y3, LeO (numnahlaw06_WettingSoaks.j0 k y0 y1 y2 y3) (numnahlaw06_WettingSoaks.j0 (k + 1) y0 y1 y2 y3)) ∧ (∀ y0 y1 y2 y3 y4 y5 y6 y7 y8 y9, LeO (numnahlaw06_WettingSoaks.j1 k y0 y1 y2 y3 y4 y5 y6 y7 y8 y9) (numnahlaw06_WettingSoaks.j1 (k + 1) y0 y1 y2 y3 y4 y5 y6 y7 y8 y9)) ∧ (∀ y0 y1 y2 y3 y4, LeO (numnahlaw06_WettingSoaks.j2 k y0 y1 y2 y3 y4) (numnahlaw06_WettingSoaks.j2 (k + 1) y0 y1 y2 y3 y4))
 | 0 => ⟨fun _ _ _ _ r h => by simp [numnahlaw06_WettingSoaks.j0] at h, fun _ _ _ _ _ _ _ _ _ _ r h => by simp [numnahlaw06_WettingSoaks.j1] at h, fun _ _ _ _ _ r h => by simp [numnahlaw06_WettingSoaks.j2] at h⟩
 | k + 1 => by
  obtain ⟨ih0, ih1, ih2⟩ := numnahlaw06_WettingSoaks.mono_l k
  refine ⟨?_, ?_, ?_⟩
  ·intro y0 y1 y2 y3
   unfold numnahlaw06_WettingSoaks.j0
   repeat' first
   | (with_reducible exact ih0 _ _ _ _)
   | (with_reducible exact ih1 _ _ _ _ _ _ _ _ _ _)
   | (with_reducible exact ih2 _ _ _ _ _)
   | (with_reducible exact numnahlaw06_ints.mono _ _ _)
   | (with_reducible exact numnahlaw06_valid.mono _ _ _ _)
   | (with_reducible exact numnahref06_List.mono _ _)
   | (with_reducible exact numnahref06_Set.mono _ _)
   | (with_reducible exact numnahref06_Soak.mono _ _ _ _)
   | (with_reducible exact LeO.refl _)
   | (with_reducible exact LeO.none _)
   | (with_reducible refine LeO.ite ?_ ?_)
   | (with_reducible refine LeO.bind ?_ (fun _ => ?_))
   | exact ih0 _ _ _ _
   | exact ih1 _ _ _ _ _ _ _ _ _ _
   | exact ih2 _ _ _ _ _
   | exact numnahlaw06_ints.mono _ _ _
   | exact numnahlaw06_valid.mono _ _ _ _
   | exact numnahref06_List.mono _ _
   | exact numnahref06_Set.mono _ _
   | exact numnahref06_Soak.mono _ _ _ _
   | exact LeO.none _
   | refine LeO.ite ?_ ?_
   | refine LeO.bind ?_ (fun _ => ?_)
  ·intro y0 y1 y2 y3 y4 y5 y6 y7 y8 y9
   unfold numnahlaw06_WettingSoaks.j1
   repeat' first
   | (with_reducible exact ih0 _ _ _ _)
   | (with_reducible exact ih1 _ _ _ _ _ _ _ _ _ _)
   | (with_reducible exact ih2 _ _ _ _ _)
   | (with_reducible exact numnahlaw06_ints.mono _ _ _)
   | (with_reducible exact numnahlaw06_valid.mono _ _ _ _)
   | (with_reducible exact numnahref06_List.mono _ _)
   | (with_reducible exact numnahref06_Set.mono _ _)
   | (with_reducible exact numnahref06_Soak.mono _ _ _ _)
   | (with_reducible exact LeO.refl _)
   | (with_reducible exact LeO.none _)
   | (with_reducible refine LeO.ite ?_ ?_)
   | (with_reducible refine LeO.bind ?_ (fun _ => ?_))
   | exact ih0 _ _ _ _
   | exact ih1 _ _ _ _ _ _ _ _ _ _
   | exact ih2 _ _ _ _ _
   | exact numnahlaw06_ints.mono _ _ _
   | exact numnahlaw06_valid.mono _ _ _ _
   | exact numnahref06_List.mono _ _
   | exact numnahref06_Set.mono _ _
   | exact numnahref06_Soak.mono _ _ _ _
   | exact LeO.none _
   | refine LeO.ite ?_ ?_
   | refine LeO.bind ?_ (fun _ => ?_)
  ·intro y0 y1 y2 y3 y4
   unfold numnahlaw06_WettingSoaks.j2
   repeat' first
   | (with_reducible exact ih0 _ _ _ _)
   | (with_reducible exact ih1 _ _ _ _ _ _ _ _ _ _)
   | (with_reducible exact ih2 _ _ _ _ _)
   | (with_reducible exact numnahlaw06_ints.mono _ _ _)
   | (with_reducible exact numnahlaw06_valid.mono _ _ _ _)
   | (with_reducible exact numnahref06_List.mono _ _)
   | (with_reducible exact numnahref06_Set.mono _ _)
   | (with_reducible exact numnahref06_Soak.mono _ _ _ _)
   | (with_reducible exact LeO.refl _)
   | (with_reducible exact LeO.none _)
   | (with_reducible refine LeO.ite ?_ ?_)
   | (with_reducible refine LeO.bind ?_ (fun _ => ?_))
   | exact ih0 _ _ _ _
   | exact ih1 _ _ _ _ _ _ _ _ _ _
   | exact ih2 _ _ _ _ _
   | exact numnahlaw06_ints.mono _ _ _
   | exact numnahlaw06_valid.mono _ _ _ _
   | exact numnahref06_List.mono _ _
   | exact numnahref06_Set.mono _ _
   | exact numnahref06_Soak.mono _ _ _ _
   | exact LeO.none _
   | refine LeO.ite ?_ ?_
   | refine LeO.bind ?_ (fun _ => ?_)
theorem numnahlaw06_WettingSoaks.mono : ∀ a0 a1 a2 k, LeO (numnahlaw06_WettingSoaks.f k a0 a1 a2) (numnahlaw06_WettingSoaks.f (k + 1) a0 a1 a2) := by
 intro a0 a1 a2 k
 obtain ⟨ih0, ih1, ih2⟩ := numnahlaw06_WettingSoaks.mono_l k
 unfold numnahlaw06_WettingSoaks.f
 repeat' first
   | (with_reducible exact ih0 _ _ _ _)
   | (with_reducible exact ih1 _ _ _ _ _ _ _ _ _ _)
   | (with_reducible exact ih2 _ _ _ _ _)
   | (with_reducible exact numnahlaw06_ints.mono _ _ _)
   | (with_reducible exact numnahlaw06_valid.mono _ _ _ _)
   | (with_reducible exact numnahref06_List.mono _ _)
   | (with_reducible exact numnahref06_Set.mono _ _)
   | (with_reducible exact numnahref06_Soak.mono _ _ _ _)
   | (with_reducible exact LeO.refl _)
   | (with_reducible exact LeO.none _)
   | (with_reducible refine LeO.ite ?_ ?_)
   | (with_reducible refine LeO.bind ?_ (fun _ => ?_))
   | exact ih0 _ _ _ _
   | exact ih1 _ _ _ _ _ _ _ _ _ _
   | exact ih2 _ _ _ _ _
   | exact numnahlaw06_ints.mono _ _ _
   | exact numnahlaw06_valid.mono _ _ _ _
   | exact numnahref06_List.mono _ _
   | exact numnahref06_Set.mono _ _
   | exact numnahref06_Soak.mono _ _ _ _
   | exact LeO.none _
   | refine LeO.ite ?_ ?_
   | refine LeO.bind ?_ (fun _ => ?_)
set_option maxHeartbeats 8000000 in
set_option maxRecDepth 100000 in
theorem numnahlaw06_WettingSoaks.calls (k : Nat) (a0 : Int) (A1 : Option Addr) (c1 : Nat) (l1 : List (S48)) (A2 : Option Addr) (c2 : Nat) (l2 : List Int) (r : Bool) (w : World) (hr1 : Kd.C k48 w A1 l1.length l1) (hc1 : l1.length ≤ c1) (hr2 : Kd.C (Kd.int .i64) w A2 l2.length l2) (hc2 : l2.length ≤ c2) (h : numnahlaw06_WettingSoaks.f k a0 l1 l2 = some r) (hT : Tab w) :
  Calls Tryd.prog 12 #[.int .i64 a0, .slice A1 l1.length c1, .slice A2 l2.length c2] w fun e w' => e = .returned (.bool r) ∧ Below w.heap.size w w' := by
 have HT := Aside0.mk hT
 clear hT
 have HR1 := Aside0.mk hr1
 have HC1 := Aside0.mk hc1
 clear hr1 hc1
 have HR2 := Aside0.mk hr2
 have HC2 := Aside0.mk hc2
 clear hr2 hc2
 have HB := Aside0.mk (Below.refl w.heap.size w)
 have H : ((numnahlaw06_pairs.f l1).bind fun t611 => ((numnahlaw06_list.f l2).bind fun t614 => (if (t614.length : Int) > 0 then (if 0 < (t614.length : Int) then (if 1 ≤ (t614.length : Int) then (numnahlaw06_WettingSoaks.j0 k a0 t611 (rd t614 0) (t614.drop (1 : Int).toNat)) else (none)) else (none)) else (numnahlaw06_WettingSoaks.j0 k a0 t611 1 t614)))) = some r := h
 clear h
 replace H := Option.bind_eq_some_iff.mp H
 obtain ⟨t611, A40, H⟩ := H
 replace H : ((numnahlaw06_list.f l2).bind fun t614 => (if (t614.length : Int) > 0 then (if 0 < (t614.length : Int) then (if 1 ≤ (t614.length : Int) then (numnahlaw06_WettingSoaks.j0 k a0 t611 (rd t614 0) (t614.drop (1 : Int).toNat)) else (none)) else (none)) else (numnahlaw06_WettingSoaks.j0 k a0 t611 1 t614))) = some r := H
 have A4 := Aside0.mk A40
 clear A40
 replace H := Option.bind_eq_some_iff.mp H
 obtain ⟨t614, A50, H⟩ := H
 replace H : (if (t614.length : Int) > 0 then (if 0 < (t614.length : Int) then (if 1 ≤ (t614.length : Int) then (numnahlaw06_WettingSoaks.j0 k a0 t611 (rd t614 0) (t614.drop (1 : Int).toNat)) else (none)) else (none)) else (numnahlaw06_WettingSoaks.j0 k a0 t611 1 t614)) = some r := H
 have A5 := Aside0.mk A50
 clear A50
 have HC6 := Aside0.mk H
 clear H
 go_enter Tryd.func12, Tryd.ntmps12
 go_upto_if 24 with (first | ((with_reducible refine gate_callee (f := 17) rfl ?_); refine goesL_ (some 19) rfl rfl Tryd.func17 (by kernel_rfl) rfl #[.slice A1 l1.length c1] rfl (by (try simp only [List.map_toArray, List.map_cons, List.map_nil]); first | done | rfl | (simp only [List.length_drop, List.length_take]; rfl)) ?_; (with_reducible refine (numnahlaw06_pairs.calls _ _ l1 t611 _ ?side1 ?side2 A4.out).mono ?_); (case side1 => repeat (first | exact HR1.out | (with_reducible refine Kd.C_alloc ?_ _) | (with_reducible refine Kd.C_drewN ?_ _) | (with_reducible refine Kd.C_drew ?_))); (case side2 => exact HC1.out); rintro e w7 ⟨v612, rfl, ho0, hb⟩; refine ⟨_, rfl, ?_⟩; have n0_ := Aside0.mk (Kd.R_lower ho0 (below_size (by repeat (first | (with_reducible first | exact HB.out | apply below_alloc | apply pw_below_drewN | apply below_drew1) | exact HB.out)))); have n1_ := Aside0.mk (below_step (by repeat (first | (with_reducible first | exact HB.out | apply below_alloc | apply pw_below_drewN | apply below_drew1) | exact HB.out)) hb); clear HB; have HO613 := n0_; have HB := n1_; clear n0_ n1_; (try clear hb); (try clear hb2); (try clear hk); (try clear hi); (try clear ho0)) | ((with_reducible refine gate_callee (f := 36) rfl ?_); refine goesL_ (some 21) rfl rfl Tryd.func36 (by kernel_rfl) rfl #[.slice A2 l2.length c2] rfl (by (try simp only [List.map_toArray, List.map_cons, List.map_nil]); first | done | rfl | (simp only [List.length_drop, List.length_take]; rfl)) ?_; (with_reducible refine (numnahlaw06_list.calls _ _ l2 t614 _ ?side1 ?side2 A5.out).mono ?_); (case side1 => repeat (first | exact (Kd.C_below HR2.out HB.out) | (with_reducible refine Kd.C_alloc ?_ _) | (with_reducible refine Kd.C_drewN ?_ _) | (with_reducible refine Kd.C_drew ?_))); (case side2 => exact HC2.out); rintro e w8 ⟨v615, rfl, ho0, hb⟩; refine ⟨_, rfl, ?_⟩; have n0_ := Aside0.mk (Kd.R_below (by (with_reducible repeat (first | apply Kd.R_alloc | apply Kd.R_drewN | apply Kd.R_drew)); exact HO613.out) hb); have n1_ := Aside0.mk (Kd.R_lower ho0 (below_size (by repeat (first | (with_reducible first | exact HB.out | apply below_alloc | apply pw_below_drewN | apply below_drew1) | exact HB.out)))); have n2_ := Aside0.mk (below_step (by repeat (first | (with_reducible first | exact HB.out | apply below_alloc | apply pw_below_drewN | apply below_drew1) | exact HB.out)) hb); clear HO613; clear HB; have HO613 := n0_; have HO616 := n1_; have HB := n2_; clear n0_ n1_ n2_; (try clear hb); (try clear hb2); (try clear hk); (try clear hi); (try clear ho0); obtain ⟨Ao9, co9, eo9⟩ := Kd.R_slice HO616.out; subst eo9))
 (try simp only [Act.put, List.setIfInBounds_toArray, List.set_cons_zero, List.set_cons_succ])
 go_cut [8, 9] (fun v8 v9 wc => ∃ (kq : Nat) (x8_5 : Int) (x9_5 : List Int), v8 = .int .i64 x8_5 ∧ Aside0 (numnahlaw06_WettingSoaks.j0 kq a0 t611 x8_5 x9_5 = some r) ∧ Aside0 (kq ≤ k) ∧ Aside0 (Kd.R k48 48 wc w.heap.size (fun _ => True) v612 t611) ∧ Aside0 (Kd.Q (Kd.int .i64) 3 wc w.heap.size (fun _ => True) v9 x9_5) ∧ Aside0 (Below w.heap.size w wc))
 case first =>
  have H := HC6.out
  clear HC6
  by_cases c10 : (t614.length : Int) > 0
  ·rw [if_pos c10] at H
   have c10b0 : decide (0 < (t614.length : Int)) = true := decide_eq_true c10
   have c10b1 : decide (0 < t614.length) = true := decide_eq_true (by omega)
   have c10n2 : (0 < t614.length) = True := eq_true (by omega)
   clear c10
   (first | rw [c10b0] | (simp only [i64_w, i32_w]; rw [c10b0]) | skip)
   by_cases c11 : 0 < (t614.length : Int)
   ·rw [if_pos c11] at H
    have c11b0 : decide (0 < (t614.length : Int)) = true := decide_eq_true c11
    have c11b1 : decide (0 < t614.length) = true := decide_eq_true (by omega)
    have c11n2 : (0 < t614.length) = True := eq_true (by omega)
    clear c11
    by_cases c12 : 1 ≤ (t614.length : Int)
    ·rw [if_pos c12] at H
     have c12b0 := eq_true c12
     have c12b1 : decide (1 ≤ (t614.length : Int)) = true := decide_eq_true c12
     clear c12
     obtain ⟨y618, hy618⟩ : ∃ y_ : List Int, y_ = (t614.drop (1 : Int).toNat) := ⟨_, rfl⟩
     replace H : (numnahlaw06_WettingSoaks.j0 k a0 t611 (rd t614 0) y618) = some r := by first | (rw [hy618]; with_reducible exact H) | (have H2_ := (Option.bind_some _ _).symm.trans H; rw [hy618]; with_reducible exact H2_) | (have H2_ := (Option.bind_some _ _).symm.trans H; with_reducible exact H2_) | with_reducible exact H | (rw [hy618]; exact H) | exact H
     have Ny618 := Aside0.mk hy618
     clear hy618
     have H' := Aside0.mk H
     clear H
     have p617 : 0 ≤ (0 : Int) := (by omega)
     have q617 : 0 < (t614.length : Int) := of_decide_eq_true (by first | (with_reducible assumption) | assumption)
     obtain ⟨ad617, e617, hx617_0⟩ := Kd.at_int (Kd.R_reads' HO616.out).2.2 0 p617 q617
     cases e617
     have qi617 : (0 < t614.length) = True := eq_true (by omega)
     (try rw [show ((0 : Int)).toNat = 0 from rfl] at hx617_0)
     (try rw [Addr.add_zero'] at hx617_0)
     replace p617 := eq_true p617
     replace q617 := eq_true q617
     have q13 : (1 : Int) ≤ ((t614.length : Int) : Int) := of_decide_eq_true (by first | (with_reducible assumption) | assumption)
     obtain ⟨i013, hi013, _, hsz13, _⟩ := info_parts info3
     have hcut13 := cut_from (P := Tryd.prog) 24 3 .i64 Tryd.underlying24 hi013 1 hsz13 (some ad617) t614.length co9 1 (by omega) q13
     have hr13 := Kd.Q_drop (k := (1 : Int).toNat) (Kd.Q_of_R HO616.out) (by omega)
     obtain ⟨A13, hA13⟩ : ∃ A1, A1 = (if co9 = (1 : Int).toNat then (some ad617) else ((some ad617) : Option Addr).map (·.add ((1 : Int).toNat * 1))) := ⟨_, rfl⟩
     obtain ⟨c13, hc13⟩ : ∃ c1, c1 = co9 - (1 : Int).toNat := ⟨_, rfl⟩
     have hy13 : y618.length = t614.length - (1 : Int).toNat := (by rw [Ny618.out, List.length_drop])
     rw [← Ny618.out] at hr13
     rw [← hy13, ← hA13, ← hc13] at hcut13
     replace hr13 : Kd.Q (Kd.int .i64) 3 w8 w.heap.size (fun _ => True) (.slice A13 y618.length c13) y618 := (by rw [hA13, hc13, hy13]; exact hr13)
     have HE13 : Aside0 ((Value.slice A13 y618.length c13).ownBlock = (.slice (some ad617) t614.length co9 : Value).ownBlock) := ⟨by rw [hA13]; split <;> (cases ((some ad617) : Option Addr) <;> rfl)⟩
     clear hy13 hi013 hsz13 HO616 hA13 hc13
     have HO620 := Aside0.mk hr13
     clear hr13
     replace q13 := eq_true q13
     go_wp2
     all_goals (try (exfalso; first | exact absurd (of_decide_eq_true c11b1) (by assumption) | exact absurd (of_decide_eq_true c10b1) (by assumption)))
     go_meet
     case rel => exact ⟨_, (rd t614 0), (y618), (by first | rfl | (simp; done) | (simp [*]; done)), H', ⟨by first | omega | exact Nat.le_refl _⟩, ⟨by (with_reducible repeat (first | apply Kd.R_alloc | apply Kd.R_drewN | apply Kd.R_drew)); exact HO613.out⟩, ⟨by (with_reducible repeat (first | apply Kd.Q_alloc | apply Kd.Q_drewN | apply Kd.Q_drew)); exact HO620.out⟩, ⟨by repeat (first | (with_reducible first | exact HB.out | apply below_alloc | apply pw_below_drewN | apply below_drew1) | exact HB.out)⟩⟩
    ·rw [if_neg c12] at H
     exact absurd H (by simp)
   ·rw [if_neg c11] at H
    exact absurd H (by simp)
  ·rw [if_neg c10] at H
   have c10b0 : decide (0 < (t614.length : Int)) = false := decide_eq_false c10
   have c10b1 : decide (0 < t614.length) = false := decide_eq_false (by omega)
   have c10n2 : (0 < t614.length) = False := eq_false (by omega)
   clear c10
   (first | rw [c10b0] | (simp only [i64_w, i32_w]; rw [c10b0]) | skip)
   have H' := Aside0.mk H
   clear H
   go_wp2
   all_goals (try (exfalso; first | exact absurd (by assumption) (of_decide_eq_false c10b1)))
   go_meet
   case rel => exact ⟨_, (1), (t614), (by first | rfl | (simp; done) | (simp [*]; done)), H', ⟨by first | omega | exact Nat.le_refl _⟩, ⟨by (with_reducible repeat (first | apply Kd.R_alloc | apply Kd.R_drewN | apply Kd.R_drew)); exact HO613.out⟩, ⟨Kd.Q_of_R (by (with_reducible repeat (first | apply Kd.R_alloc | apply Kd.R_drewN | apply Kd.R_drew)); exact HO616.out)⟩, ⟨by repeat (first | (with_reducible first | exact HB.out | apply below_alloc | apply pw_below_drewN | apply below_drew1) | exact HB.out)⟩⟩
 case rest =>
  clear HC6
  try clear c1
  try clear q1
  try clear c2
  try clear p2
  try clear c3
  try clear p6
  try clear q6
  try clear hx6
  try clear qi6
  try clear c10
  try clear c10b0
  try clear c10b1
  try clear c11
  try clear c11b0
  try clear c11b1
  try clear c12
  try clear c12b0
  try clear c12b1
  try clear c13
  try clear q13
  try clear hx617_0
  try clear p617
  try clear q13
  try clear q617
  obtain ⟨kq, x8_5, x9_5, rfl, HA, HJ5, HO_7, HO_9, HB⟩ := hcut
  cases kq with
  | zero => exact absurd HA.out (by simp [numnahlaw06_WettingSoaks.j0])
  | succ kj5 =>
   have H := HA.out
   clear HA
   simp only [numnahlaw06_WettingSoaks.j0] at H
   replace H := Option.bind_eq_some_iff.mp H
   obtain ⟨⟨t621, t622, t623⟩, A140, H⟩ := H
   replace H : ((wetting_Shelter.f a0 t611 x9_5 x8_5).bind fun bt626 => ((numnahlaw06_valid.f kj5 a0 t611 x9_5).bind fun t630 => (if t630 = true then ((numnahlaw06_threshold.f x8_5).bind fun t631 => (numnahlaw06_WettingSoaks.j1 kj5 a0 t611 x8_5 x9_5 t621 t622 t623 bt626.1 bt626.2 (!t631))) else (numnahlaw06_WettingSoaks.j1 kj5 a0 t611 x8_5 x9_5 t621 t622 t623 bt626.1 bt626.2 true)))) = some r := H
   have A14 := Aside0.mk A140
   clear A140
   replace H := Option.bind_eq_some_iff.mp H
   obtain ⟨⟨t626, t627⟩, A150, H⟩ := H
   replace H : ((numnahlaw06_valid.f kj5 a0 t611 x9_5).bind fun t630 => (if t630 = true then ((numnahlaw06_threshold.f x8_5).bind fun t631 => (numnahlaw06_WettingSoaks.j1 kj5 a0 t611 x8_5 x9_5 t621 t622 t623 t626 t627 (!t631))) else (numnahlaw06_WettingSoaks.j1 kj5 a0 t611 x8_5 x9_5 t621 t622 t623 t626 t627 true))) = some r := H
   have A15 := Aside0.mk A150
   clear A150
   have HC16 := Aside0.mk H
   clear H
   obtain ⟨Ao17, co17, eo17⟩ := Kd.R_slice HO_7.out
   subst eo17
   obtain ⟨Ao18, co18, eo18, _⟩ := Kd.Q_slice HO_9.out
   subst eo18
   go_upto_region 8 with (first | ((with_reducible refine gate_callee (f := 48) rfl ?_); refine goesL_ (some 35) rfl rfl Tryd.func48 (by kernel_rfl) rfl #[.int .i64 a0, .slice Ao17 t611.length co17, .slice Ao18 x9_5.length co18, .int .i64 x8_5] rfl (by (try simp only [List.map_toArray, List.map_cons, List.map_nil]); first | done | rfl | (simp only [List.length_drop, List.length_take]; rfl)) ?_; (with_reducible refine (wetting_Soak.calls a0 _ _ t611 _ _ x9_5 x8_5 t621 t622 t623 _ ?side1 ?side2 ?side3 ?side4 A14.out ?sideT).mono ?_); (case sideT => exact tab_of (by repeat (first | (with_reducible first | exact HB.out | apply below_alloc | apply pw_below_drewN | apply below_drew1) | exact HB.out)) HT.out); (case side1 => repeat (first | exact (Kd.R_reads' HO_7.out).2.2 | (with_reducible refine Kd.C_alloc ?_ _) | (with_reducible refine Kd.C_drewN ?_ _) | (with_reducible refine Kd.C_drew ?_))); (case side2 => exact (Kd.R_reads' HO_7.out).2.1); (case side3 => repeat (first | exact (Kd.Q_reads' HO_9.out).2.2 | (with_reducible refine Kd.C_alloc ?_ _) | (with_reducible refine Kd.C_drewN ?_ _) | (with_reducible refine Kd.C_drew ?_))); (case side4 => exact (Kd.Q_reads' HO_9.out).2.1); rintro e w19 ⟨v624, rfl, ho0, hb⟩; refine ⟨_, rfl, ?_⟩; have n0_ := Aside0.mk (Kd.R_below (by (with_reducible repeat (first | apply Kd.R_alloc | apply Kd.R_drewN | apply Kd.R_drew)); exact HO_7.out) hb); have n1_ := Aside0.mk (Kd.Q_elder' (by (with_reducible repeat (first | apply Kd.Q_alloc | apply Kd.Q_drewN | apply Kd.Q_drew)); exact HO_9.out) (Kd.R_base ho0) hb); have n2_ := Aside0.mk (Kd.R_lower (Kd.R_new' ho0 (Kd.Q_lt (by (with_reducible repeat (first | apply Kd.Q_alloc | apply Kd.Q_drewN | apply Kd.Q_drew)); exact HO_9.out))) (below_size (by repeat (first | (with_reducible first | exact HB.out | apply below_alloc | apply pw_below_drewN | apply below_drew1) | exact HB.out)))); have n3_ := Aside0.mk (below_step (by repeat (first | (with_reducible first | exact HB.out | apply below_alloc | apply pw_below_drewN | apply below_drew1) | exact HB.out)) hb); clear HO_7; clear HO_9; clear HB; have HO_7 := n0_; have HO_9 := n1_; have HO625 := n2_; have HB := n3_; clear n0_ n1_ n2_ n3_; (try clear hb); (try clear hb2); (try clear hk); (try clear hi); (try clear ho0)) | ((with_reducible refine gate_callee (f := 49) rfl ?_); refine goesL_ (some 44) rfl rfl Tryd.func49 (by kernel_rfl) rfl #[.int .i64 a0, .slice Ao17 t611.length co17, .slice Ao18 x9_5.length co18, .int .i64 x8_5] rfl (by (try simp only [List.map_toArray, List.map_cons, List.map_nil]); first | done | rfl | (simp only [List.length_drop, List.length_take]; rfl)) ?_; (with_reducible refine (wetting_Shelter.calls a0 _ _ t611 _ _ x9_5 x8_5 t626 t627 _ ?side1 ?side2 ?side3 ?side4 A15.out ?sideT).mono ?_); (case sideT => exact tab_of (by repeat (first | (with_reducible first | exact HB.out | apply below_alloc | apply pw_below_drewN | apply below_drew1) | exact HB.out)) HT.out); (case side1 => repeat (first | exact (Kd.R_reads' HO_7.out).2.2 | (with_reducible refine Kd.C_alloc ?_ _) | (with_reducible refine Kd.C_drewN ?_ _) | (with_reducible refine Kd.C_drew ?_))); (case side2 => exact (Kd.R_reads' HO_7.out).2.1); (case side3 => repeat (first | exact (Kd.Q_reads' HO_9.out).2.2 | (with_reducible refine Kd.C_alloc ?_ _) | (with_reducible refine Kd.C_drewN ?_ _) | (with_reducible refine Kd.C_drew ?_))); (case side4 => exact (Kd.Q_reads' HO_9.out).2.1); rintro e w20 ⟨v628, rfl, ho0, hb⟩; refine ⟨_, rfl, ?_⟩; have n0_ := Aside0.mk (Kd.R_below (by (with_reducible repeat (first | apply Kd.R_alloc | apply Kd.R_drewN | apply Kd.R_drew)); exact HO_7.out) hb); have n1_ := Aside0.mk (Kd.Q_elder' (by (with_reducible repeat (first | apply Kd.Q_alloc | apply Kd.Q_drewN | apply Kd.Q_drew)); exact HO_9.out) (Kd.R_base ho0) hb); have n2_ := Aside0.mk (Kd.R_elder' (by (with_reducible repeat (first | apply Kd.R_alloc | apply Kd.R_drewN | apply Kd.R_drew)); exact HO625.out) (Kd.R_base ho0) hb); have n3_ := Aside0.mk (Kd.R_lower (Kd.R_new' (Kd.R_new' ho0 (Kd.Q_lt (by (with_reducible repeat (first | apply Kd.Q_alloc | apply Kd.Q_drewN | apply Kd.Q_drew)); exact HO_9.out))) (Kd.R_lt (by (with_reducible repeat (first | apply Kd.R_alloc | apply Kd.R_drewN | apply Kd.R_drew)); exact HO625.out))) (below_size (by repeat (first | (with_reducible first | exact HB.out | apply below_alloc | apply pw_below_drewN | apply below_drew1) | exact HB.out)))); have n4_ := Aside0.mk (below_step (by repeat (first | (with_reducible first | exact HB.out | apply below_alloc | apply pw_below_drewN | apply below_drew1) | exact HB.out)) hb); clear HO_7; clear HO_9; clear HO625; clear HB; have HO_7 := n0_; have HO_9 := n1_; have HO625 := n2_; have HO629 := n3_; have HB := n4_; clear n0_ n1_ n2_ n3_ n4_; (try clear hb); (try clear hb2); (try clear hk); (try clear hi); (try clear ho0)))
   (try simp only [Act.put, List.setIfInBounds_toArray, List.set_cons_zero, List.set_cons_succ])
   go_cut [56] (fun v56 wc => ∃ (kq : Nat) (x56_15 : Bool), v56 = .bool x56_15 ∧ Aside0 (numnahlaw06_WettingSoaks.j1 kq a0 t611 x8_5 x9_5 t621 t622 t623 t626 t627 x56_15 = some r) ∧ Aside0 (kq ≤ kj5) ∧ Aside0 (Kd.R k48 48 wc w.heap.size (fun _ => True) (.slice Ao17 t611.length co17) t611) ∧ Aside0 (Kd.Q (Kd.int .i64) 3 wc w.heap.size (fun k_ => some k_ ≠ (v624 : Value).ownBlock ∧ some k_ ≠ (v628 : Value).ownBlock) (.slice Ao18 x9_5.length co18) x9_5) ∧ Aside0 (Kd.R (Kd.int .i64) 3 wc w.heap.size (fun k_ => some k_ ≠ ((.slice Ao18 x9_5.length co18) : Value).ownBlock ∧ some k_ ≠ (v628 : Value).ownBlock) v624 t621) ∧ Aside0 (Kd.R (Kd.int .i64) 3 wc w.heap.size (fun k_ => some k_ ≠ ((.slice Ao18 x9_5.length co18) : Value).ownBlock ∧ some k_ ≠ (v624 : Value).ownBlock) v628 t626) ∧ Aside0 (Below w.heap.size w wc))
   case first =>
    have H := HC16.out
    clear HC16
    replace H := Option.bind_eq_some_iff.mp H
    obtain ⟨t630, A210, H⟩ := H
    replace H : (if t630 = true then ((numnahlaw06_threshold.f x8_5).bind fun t631 => (numnahlaw06_WettingSoaks.j1 kj5 a0 t611 x8_5 x9_5 t621 t622 t623 t626 t627 (!t631))) else (numnahlaw06_WettingSoaks.j1 kj5 a0 t611 x8_5 x9_5 t621 t622 t623 t626 t627 true)) = some r := H
    have A21 := Aside0.mk A210
    clear A210
    by_cases c22 : t630 = true
    ·subst c22
     have H1 : ((numnahlaw06_threshold.f x8_5).bind fun t631 => (numnahlaw06_WettingSoaks.j1 kj5 a0 t611 x8_5 x9_5 t621 t622 t623 t626 t627 (!t631))) = some r := by rw [if_pos rfl] at H; exact H
     clear H
     have H := H1
     clear H1
     replace H := Option.bind_eq_some_iff.mp H
     obtain ⟨t631, A230, H⟩ := H
     replace H : (numnahlaw06_WettingSoaks.j1 kj5 a0 t611 x8_5 x9_5 t621 t622 t623 t626 t627 (!t631)) = some r := H
     have A23 := Aside0.mk A230
     clear A230
     have H' := Aside0.mk H
     clear H
     go_wp2_with (first | ((with_reducible refine gate_callee (f := 39) rfl ?_); refine goesL_ (some 50) rfl rfl Tryd.func39 (by kernel_rfl) rfl #[.int .i64 a0, .slice Ao17 t611.length co17, .slice Ao18 x9_5.length co18] rfl (by (try simp only [List.map_toArray, List.map_cons, List.map_nil]); first | done | rfl | (simp only [List.length_drop, List.length_take]; rfl)) ?_; (with_reducible refine (numnahlaw06_valid.calls kj5 a0 _ _ t611 _ _ x9_5 true _ ?side1 ?side2 ?side3 ?side4 A21.out).mono ?_); (case side1 => repeat (first | exact (Kd.R_reads' HO_7.out).2.2 | (with_reducible refine Kd.C_alloc ?_ _) | (with_reducible refine Kd.C_drewN ?_ _) | (with_reducible refine Kd.C_drew ?_))); (case side2 => exact (Kd.R_reads' HO_7.out).2.1); (case side3 => repeat (first | exact (Kd.Q_reads' HO_9.out).2.2 | (with_reducible refine Kd.C_alloc ?_ _) | (with_reducible refine Kd.C_drewN ?_ _) | (with_reducible refine Kd.C_drew ?_))); (case side4 => exact (Kd.Q_reads' HO_9.out).2.1); rintro e w' ⟨rfl, ⟨nd, rfl⟩⟩; refine ⟨_, rfl, ?_⟩) | (go_at_call 43; (with_reducible refine (numnahlaw06_threshold.calls x8_5 t631 _ A23.out).mono ?_); rintro e w' ⟨rfl, ⟨nd, rfl⟩⟩))
     go_meet
     case rel => exact ⟨_, (!t631), (by first | rfl | (simp; done) | (simp [*]; done)), H', ⟨by have := HJ5.out; first | omega | exact Nat.le_refl _⟩, ⟨by (with_reducible repeat (first | apply Kd.R_alloc | apply Kd.R_drewN | apply Kd.R_drew)); exact HO_7.out⟩, ⟨by (with_reducible repeat (first | apply Kd.Q_alloc | apply Kd.Q_drewN | apply Kd.Q_drew)); exact Kd.Q_mono HO_9.out (fun _ hk => ⟨hk.1.2, hk.2⟩)⟩, ⟨by (with_reducible repeat (first | apply Kd.R_alloc | apply Kd.R_drewN | apply Kd.R_drew)); exact Kd.R_mono HO625.out (fun _ hk => ⟨hk.1.2, hk.2⟩)⟩, ⟨by (with_reducible repeat (first | apply Kd.R_alloc | apply Kd.R_drewN | apply Kd.R_drew)); exact Kd.R_mono HO629.out (fun _ hk => ⟨hk.1.2, hk.2⟩)⟩, ⟨by repeat (first | (with_reducible first | exact HB.out | apply below_alloc | apply pw_below_drewN | apply below_drew1) | exact HB.out)⟩⟩
    ·replace c22 := Bool.eq_false_iff.mpr c22
     subst c22
     have H1 : (numnahlaw06_WettingSoaks.j1 kj5 a0 t611 x8_5 x9_5 t621 t622 t623 t626 t627 true) = some r := by rw [if_neg (show ¬ (false = true) by decide)] at H; exact H
     clear H
     have H := H1
     clear H1
     have H' := Aside0.mk H
     clear H
     go_wp2_with (first | ((with_reducible refine gate_callee (f := 39) rfl ?_); refine goesL_ (some 50) rfl rfl Tryd.func39 (by kernel_rfl) rfl #[.int .i64 a0, .slice Ao17 t611.length co17, .slice Ao18 x9_5.length co18] rfl (by (try simp only [List.map_toArray, List.map_cons, List.map_nil]); first | done | rfl | (simp only [List.length_drop, List.length_take]; rfl)) ?_; (with_reducible refine (numnahlaw06_valid.calls kj5 a0 _ _ t611 _ _ x9_5 false _ ?side1 ?side2 ?side3 ?side4 A21.out).mono ?_); (case side1 => repeat (first | exact (Kd.R_reads' HO_7.out).2.2 | (with_reducible refine Kd.C_alloc ?_ _) | (with_reducible refine Kd.C_drewN ?_ _) | (with_reducible refine Kd.C_drew ?_))); (case side2 => exact (Kd.R_reads' HO_7.out).2.1); (case side3 => repeat (first | exact (Kd.Q_reads' HO_9.out).2.2 | (with_reducible refine Kd.C_alloc ?_ _) | (with_reducible refine Kd.C_drewN ?_ _) | (with_reducible refine Kd.C_drew ?_))); (case side4 => exact (Kd.Q_reads' HO_9.out).2.1); rintro e w' ⟨rfl, ⟨nd, rfl⟩⟩; refine ⟨_, rfl, ?_⟩))
     go_meet
     case rel => exact ⟨_, (true), (by first | rfl | (simp; done) | (simp [*]; done)), H', ⟨by have := HJ5.out; first | omega | exact Nat.le_refl _⟩, ⟨by (with_reducible repeat (first | apply Kd.R_alloc | apply Kd.R_drewN | apply Kd.R_drew)); exact HO_7.out⟩, ⟨by (with_reducible repeat (first | apply Kd.Q_alloc | apply Kd.Q_drewN | apply Kd.Q_drew)); exact Kd.Q_mono HO_9.out (fun _ hk => ⟨hk.1.2, hk.2⟩)⟩, ⟨by (with_reducible repeat (first | apply Kd.R_alloc | apply Kd.R_drewN | apply Kd.R_drew)); exact Kd.R_mono HO625.out (fun _ hk => ⟨hk.1.2, hk.2⟩)⟩, ⟨by (with_reducible repeat (first | apply Kd.R_alloc | apply Kd.R_drewN | apply Kd.R_drew)); exact Kd.R_mono HO629.out (fun _ hk => ⟨hk.1.2, hk.2⟩)⟩, ⟨by repeat (first | (with_reducible first | exact HB.out | apply below_alloc | apply pw_below_drewN | apply below_drew1) | exact HB.out)⟩⟩
   case rest =>
    clear HC16
    try clear c1
    try clear q1
    try clear c2
    try clear p2
    try clear c3
    try clear c4
    try clear p6
    try clear q6
    try clear hx6
    try clear qi6
    try clear c10
    try clear c10b0
    try clear c10b1
    try clear c11
    try clear c11b0
    try clear c11b1
    try clear c12
    try clear c12b0
    try clear c12b1
    try clear c13
    try clear q13
    try clear c17
    try clear c22
    try clear hx617_0
    try clear p2
    try clear p6
    try clear p617
    try clear q1
    try clear q13
    try clear q6
    try clear q617
    obtain ⟨kq, x56_15, rfl, HA, HJ15, HO_7, HO_9, HO_10, HO_13, HB⟩ := hcut
    cases kq with
    | zero => exact absurd HA.out (by simp [numnahlaw06_WettingSoaks.j1])
    | succ kj15 =>
     have H := HA.out
     clear HA
     simp only [numnahlaw06_WettingSoaks.j1] at H
     by_cases c24 : x56_15 = true
     ·subst c24
      have H1 : (if (t621.length : Int) = 0 then (if t622 = 0 then (if t623 = 2 then (if (t626.length : Int) = 0 then (if t627 = 2 then ((numnahlaw06_awake.f).bind fun t632 => (some t632)) else (some false)) else (some false)) else (some false)) else (some false)) else (some false)) = some r := by rw [if_pos rfl] at H; exact H
      clear H
      have H := H1
      clear H1
      by_cases c25 : (t621.length : Int) = 0
      ·rw [if_pos c25] at H
       have c25b0 : ((t621.length : Int) == 0) = true := beq_iff_eq.mpr c25
       have c25b1 : ((t621.length : Int) != 0) = false := bne_eq_false_iff_eq.mpr c25
       clear c25
       by_cases c26 : t622 = 0
       ·rw [if_pos c26] at H
        have c26b0 : (t622 == 0) = true := beq_iff_eq.mpr c26
        have c26b1 : (t622 != 0) = false := bne_eq_false_iff_eq.mpr c26
        clear c26
        by_cases c27 : t623 = 2
        ·rw [if_pos c27] at H
         have c27b0 : (t623 == 2) = true := beq_iff_eq.mpr c27
         have c27b1 : (t623 != 2) = false := bne_eq_false_iff_eq.mpr c27
         clear c27
         by_cases c28 : (t626.length : Int) = 0
         ·rw [if_pos c28] at H
          have c28b0 : ((t626.length : Int) == 0) = true := beq_iff_eq.mpr c28
          have c28b1 : ((t626.length : Int) != 0) = false := bne_eq_false_iff_eq.mpr c28
          clear c28
          by_cases c29 : t627 = 2
          ·rw [if_pos c29] at H
           have c29b0 : (t627 == 2) = true := beq_iff_eq.mpr c29
           have c29b1 : (t627 != 2) = false := bne_eq_false_iff_eq.mpr c29
           clear c29
           replace H := Option.bind_eq_some_iff.mp H
           obtain ⟨t632, A300, H⟩ := H
           replace H : (some t632) = some r := H
           have A30 := Aside0.mk A300
           clear A300
           obtain rfl := Option.some.inj H
           obtain ⟨Ao31, co31, eo31⟩ := Kd.R_slice HO_10.out
           subst eo31
           obtain ⟨Ao32, co32, eo32⟩ := Kd.R_slice HO_13.out
           subst eo32
           go_wp2_with (first | (go_at_call 21; (with_reducible refine (numnahlaw06_awake.calls  t632 _ A30.out ?sideT).mono ?_); (case sideT => exact tab_of (by repeat (first | (with_reducible first | exact HB.out | apply below_alloc | apply pw_below_drewN | apply below_drew1) | exact HB.out)) HT.out); rintro e w33 ⟨rfl, hb⟩; have n0_ := Aside0.mk (Kd.R_below (by (with_reducible repeat (first | apply Kd.R_alloc | apply Kd.R_drewN | apply Kd.R_drew)); exact HO_7.out) hb); have n1_ := Aside0.mk (Kd.Q_below (by (with_reducible repeat (first | apply Kd.Q_alloc | apply Kd.Q_drewN | apply Kd.Q_drew)); exact HO_9.out) hb); have n2_ := Aside0.mk (Kd.R_below (by (with_reducible repeat (first | apply Kd.R_alloc | apply Kd.R_drewN | apply Kd.R_drew)); exact HO_10.out) hb); have n3_ := Aside0.mk (Kd.R_below (by (with_reducible repeat (first | apply Kd.R_alloc | apply Kd.R_drewN | apply Kd.R_drew)); exact HO_13.out) hb); have n4_ := Aside0.mk (below_step (by repeat (first | (with_reducible first | exact HB.out | apply below_alloc | apply pw_below_drewN | apply below_drew1) | exact HB.out)) hb); clear HO_7; clear HO_9; clear HO_10; clear HO_13; clear HB; have HO_7 := n0_; have HO_9 := n1_; have HO_10 := n2_; have HO_13 := n3_; have HB := n4_; clear n0_ n1_ n2_ n3_ n4_; (try clear hb); (try clear hb2); (try clear hk); (try clear hi)))
           go_ret
           exact ⟨by first | rfl | (simp [errW_none, errW_some] <;> rfl) | (simp [*, errW_none, errW_some] <;> rfl), by repeat (first | (with_reducible first | exact HB.out | apply below_alloc | apply pw_below_drewN | apply below_drew1) | exact HB.out)⟩
          ·rw [if_neg c29] at H
           have c29b0 : (t627 == 2) = false := beq_eq_false_iff_ne.mpr c29
           have c29b1 : (t627 != 2) = true := bne_iff_ne.mpr c29
           obtain rfl := Option.some.inj H
           obtain ⟨Ao34, co34, eo34⟩ := Kd.R_slice HO_10.out
           subst eo34
           obtain ⟨Ao35, co35, eo35⟩ := Kd.R_slice HO_13.out
           subst eo35
           go_wp2
           go_ret
           exact ⟨by first | rfl | (simp [errW_none, errW_some] <;> rfl) | (simp [*, errW_none, errW_some] <;> rfl), by repeat (first | (with_reducible first | exact HB.out | apply below_alloc | apply pw_below_drewN | apply below_drew1) | exact HB.out)⟩
         ·rw [if_neg c28] at H
          have c28b0 : ((t626.length : Int) == 0) = false := beq_eq_false_iff_ne.mpr c28
          have c28b1 : ((t626.length : Int) != 0) = true := bne_iff_ne.mpr c28
          have c28b2 : ¬ (t626 = []) := fun h_ => c28 (by rw [h_]; rfl)
          obtain rfl := Option.some.inj H
          obtain ⟨Ao36, co36, eo36⟩ := Kd.R_slice HO_10.out
          subst eo36
          obtain ⟨Ao37, co37, eo37⟩ := Kd.R_slice HO_13.out
          subst eo37
          go_wp2
          go_ret
          exact ⟨by first | rfl | (simp [errW_none, errW_some] <;> rfl) | (simp [*, errW_none, errW_some] <;> rfl), by repeat (first | (with_reducible first | exact HB.out | apply below_alloc | apply pw_below_drewN | apply below_drew1) | exact HB.out)⟩
        ·rw [if_neg c27] at H
         have c27b0 : (t623 == 2) = false := beq_eq_false_iff_ne.mpr c27
         have c27b1 : (t623 != 2) = true := bne_iff_ne.mpr c27
         obtain rfl := Option.some.inj H
         obtain ⟨Ao38, co38, eo38⟩ := Kd.R_slice HO_10.out
         subst eo38
         go_wp2
         go_ret
         exact ⟨by first | rfl | (simp [errW_none, errW_some] <;> rfl) | (simp [*, errW_none, errW_some] <;> rfl), by repeat (first | (with_reducible first | exact HB.out | apply below_alloc | apply pw_below_drewN | apply below_drew1) | exact HB.out)⟩
       ·rw [if_neg c26] at H
        have c26b0 : (t622 == 0) = false := beq_eq_false_iff_ne.mpr c26
        have c26b1 : (t622 != 0) = true := bne_iff_ne.mpr c26
        obtain rfl := Option.some.inj H
        obtain ⟨Ao39, co39, eo39⟩ := Kd.R_slice HO_10.out
        subst eo39
        go_wp2
        go_ret
        exact ⟨by first | rfl | (simp [errW_none, errW_some] <;> rfl) | (simp [*, errW_none, errW_some] <;> rfl), by repeat (first | (with_reducible first | exact HB.out | apply below_alloc | apply pw_below_drewN | apply below_drew1) | exact HB.out)⟩
      ·rw [if_neg c25] at H
       have c25b0 : ((t621.length : Int) == 0) = false := beq_eq_false_iff_ne.mpr c25
       have c25b1 : ((t621.length : Int) != 0) = true := bne_iff_ne.mpr c25
       have c25b2 : ¬ (t621 = []) := fun h_ => c25 (by rw [h_]; rfl)
       obtain rfl := Option.some.inj H
       obtain ⟨Ao40, co40, eo40⟩ := Kd.R_slice HO_10.out
       subst eo40
       go_wp2
       go_ret
       exact ⟨by first | rfl | (simp [errW_none, errW_some] <;> rfl) | (simp [*, errW_none, errW_some] <;> rfl), by repeat (first | (with_reducible first | exact HB.out | apply below_alloc | apply pw_below_drewN | apply below_drew1) | exact HB.out)⟩
     ·replace c24 := Bool.eq_false_iff.mpr c24
      subst c24
      have H1 : ((numnahref06_Near.f a0 t611).bind fun t633 => ((numnahref06_Set.f kj15 x9_5).bind fun t636 => ((numnahref06_Soak.f kj15 t633 t636 x8_5).bind fun bt637 => ((numnahref06_List.f kj15 bt637.1).bind fun t639 => ((numnahlaw06_ints.f kj15 t621 t639).bind fun t642 => (if t642 = true then (if t622 = bt637.2 then (numnahlaw06_WettingSoaks.j2 kj15 t626 t627 t633 bt637.1 (t623 != 0)) else (numnahlaw06_WettingSoaks.j2 kj15 t626 t627 t633 bt637.1 true)) else (numnahlaw06_WettingSoaks.j2 kj15 t626 t627 t633 bt637.1 true))))))) = some r := by rw [if_neg (show ¬ (false = true) by decide)] at H; exact H
      clear H
      have H := H1
      clear H1
      replace H := Option.bind_eq_some_iff.mp H
      obtain ⟨t633, A410, H⟩ := H
      replace H : ((numnahref06_Set.f kj15 x9_5).bind fun t636 => ((numnahref06_Soak.f kj15 t633 t636 x8_5).bind fun bt637 => ((numnahref06_List.f kj15 bt637.1).bind fun t639 => ((numnahlaw06_ints.f kj15 t621 t639).bind fun t642 => (if t642 = true then (if t622 = bt637.2 then (numnahlaw06_WettingSoaks.j2 kj15 t626 t627 t633 bt637.1 (t623 != 0)) else (numnahlaw06_WettingSoaks.j2 kj15 t626 t627 t633 bt637.1 true)) else (numnahlaw06_WettingSoaks.j2 kj15 t626 t627 t633 bt637.1 true)))))) = some r := H
      have A41 := Aside0.mk A410
      clear A410
      replace H := Option.bind_eq_some_iff.mp H
      obtain ⟨t636, A420, H⟩ := H
      replace H : ((numnahref06_Soak.f kj15 t633 t636 x8_5).bind fun bt637 => ((numnahref06_List.f kj15 bt637.1).bind fun t639 => ((numnahlaw06_ints.f kj15 t621 t639).bind fun t642 => (if t642 = true then (if t622 = bt637.2 then (numnahlaw06_WettingSoaks.j2 kj15 t626 t627 t633 bt637.1 (t623 != 0)) else (numnahlaw06_WettingSoaks.j2 kj15 t626 t627 t633 bt637.1 true)) else (numnahlaw06_WettingSoaks.j2 kj15 t626 t627 t633 bt637.1 true))))) = some r := H
      have A42 := Aside0.mk A420
      clear A420
      replace H := Option.bind_eq_some_iff.mp H
      obtain ⟨⟨t637, t638⟩, A430, H⟩ := H
      replace H : ((numnahref06_List.f kj15 t637).bind fun t639 => ((numnahlaw06_ints.f kj15 t621 t639).bind fun t642 => (if t642 = true then (if t622 = t638 then (numnahlaw06_WettingSoaks.j2 kj15 t626 t627 t633 t637 (t623 != 0)) else (numnahlaw06_WettingSoaks.j2 kj15 t626 t627 t633 t637 true)) else (numnahlaw06_WettingSoaks.j2 kj15 t626 t627 t633 t637 true)))) = some r := H
      have A43 := Aside0.mk A430
      clear A430
      have HC44 := Aside0.mk H
      clear H
      go_upto_region 12 with (first | ((with_reducible refine gate_callee (f := 22) rfl ?_); refine goesL_ (some 82) rfl rfl Tryd.func22 (by kernel_rfl) rfl #[.int .i64 a0, .slice Ao17 t611.length co17] rfl (by (try simp only [List.map_toArray, List.map_cons, List.map_nil]); first | done | rfl | (simp only [List.length_drop, List.length_take]; rfl)) ?_; (with_reducible refine (numnahref06_Near.calls a0 _ _ t611 t633 _ ?side1 ?side2 A41.out).mono ?_); (case side1 => repeat (first | exact (Kd.R_reads' HO_7.out).2.2 | (with_reducible refine Kd.C_alloc ?_ _) | (with_reducible refine Kd.C_drewN ?_ _) | (with_reducible refine Kd.C_drew ?_))); (case side2 => exact (Kd.R_reads' HO_7.out).2.1); rintro e w45 ⟨v634, rfl, ho0, hb⟩; refine ⟨_, rfl, ?_⟩; have n0_ := Aside0.mk (Kd.R_below (by (with_reducible repeat (first | apply Kd.R_alloc | apply Kd.R_drewN | apply Kd.R_drew)); exact HO_7.out) hb); have n1_ := Aside0.mk (Kd.Q_elder' (by (with_reducible repeat (first | apply Kd.Q_alloc | apply Kd.Q_drewN | apply Kd.Q_drew)); exact HO_9.out) (Kd.R_base ho0) hb); have n2_ := Aside0.mk (Kd.R_elder' (by (with_reducible repeat (first | apply Kd.R_alloc | apply Kd.R_drewN | apply Kd.R_drew)); exact HO_10.out) (Kd.R_base ho0) hb); have n3_ := Aside0.mk (Kd.R_elder' (by (with_reducible repeat (first | apply Kd.R_alloc | apply Kd.R_drewN | apply Kd.R_drew)); exact HO_13.out) (Kd.R_base ho0) hb); have n4_ := Aside0.mk (Kd.R_lower (Kd.R_new' (Kd.R_new' (Kd.R_new' ho0 (Kd.Q_lt (by (with_reducible repeat (first | apply Kd.Q_alloc | apply Kd.Q_drewN | apply Kd.Q_drew)); exact HO_9.out))) (Kd.R_lt (by (with_reducible repeat (first | apply Kd.R_alloc | apply Kd.R_drewN | apply Kd.R_drew)); exact HO_10.out))) (Kd.R_lt (by (with_reducible repeat (first | apply Kd.R_alloc | apply Kd.R_drewN | apply Kd.R_drew)); exact HO_13.out))) (below_size (by repeat (first | (with_reducible first | exact HB.out | apply below_alloc | apply pw_below_drewN | apply below_drew1) | exact HB.out)))); have n5_ := Aside0.mk (below_step (by repeat (first | (with_reducible first | exact HB.out | apply below_alloc | apply pw_below_drewN | apply below_drew1) | exact HB.out)) hb); clear HO_7; clear HO_9; clear HO_10; clear HO_13; clear HB; have HO_7 := n0_; have HO_9 := n1_; have HO_10 := n2_; have HO_13 := n3_; have HO635 := n4_; have HB := n5_; clear n0_ n1_ n2_ n3_ n4_ n5_; (try clear hb); (try clear hb2); (try clear hk); (try clear hi); (try clear ho0)) | ((with_reducible refine gate_callee (f := 32) rfl ?_); refine goesL_ (some 86) rfl rfl Tryd.func32 (by kernel_rfl) rfl #[.slice Ao18 x9_5.length co18] rfl (by (try simp only [List.map_toArray, List.map_cons, List.map_nil]); first | done | rfl | (simp only [List.length_drop, List.length_take]; rfl)) ?_; (with_reducible refine (numnahref06_Set.calls kj15 _ _ x9_5 t636 _ ?side1 ?side2 A42.out).mono ?_); (case side1 => repeat (first | exact (Kd.Q_reads' HO_9.out).2.2 | (with_reducible refine Kd.C_alloc ?_ _) | (with_reducible refine Kd.C_drewN ?_ _) | (with_reducible refine Kd.C_drew ?_))); (case side2 => exact (Kd.Q_reads' HO_9.out).2.1); rintro e w' ⟨rfl, ⟨nd, rfl⟩⟩; refine ⟨_, rfl, ?_⟩; obtain ⟨Ao46, co46, eo46⟩ := Kd.R_slice HO635.out; subst eo46) | ((with_reducible refine gate_callee (f := 50) rfl ?_); refine goesL_ (some 88) rfl rfl Tryd.func50 (by kernel_rfl) rfl #[.slice Ao46 t633.length co46, .int .i64 t636, .int .i64 x8_5] rfl (by (try simp only [List.map_toArray, List.map_cons, List.map_nil]); first | done | rfl | (simp only [List.length_drop, List.length_take]; rfl)) ?_; (with_reducible refine (numnahref06_Soak.calls kj15 _ _ t633 t636 x8_5 t637 t638 _ ?side1 ?side2 A43.out).mono ?_); (case side1 => repeat (first | exact (Kd.R_reads' HO635.out).2.2 | (with_reducible refine Kd.C_alloc ?_ _) | (with_reducible refine Kd.C_drewN ?_ _) | (with_reducible refine Kd.C_drew ?_))); (case side2 => exact (Kd.R_reads' HO635.out).2.1); rintro e w47 ⟨rfl, hb⟩; refine ⟨_, rfl, ?_⟩; have n0_ := Aside0.mk (Kd.R_below (by (with_reducible repeat (first | apply Kd.R_alloc | apply Kd.R_drewN | apply Kd.R_drew)); exact HO_7.out) hb); have n1_ := Aside0.mk (Kd.Q_below (by (with_reducible repeat (first | apply Kd.Q_alloc | apply Kd.Q_drewN | apply Kd.Q_drew)); exact HO_9.out) hb); have n2_ := Aside0.mk (Kd.R_below (by (with_reducible repeat (first | apply Kd.R_alloc | apply Kd.R_drewN | apply Kd.R_drew)); exact HO_10.out) hb); have n3_ := Aside0.mk (Kd.R_below (by (with_reducible repeat (first | apply Kd.R_alloc | apply Kd.R_drewN | apply Kd.R_drew)); exact HO_13.out) hb); have n4_ := Aside0.mk (Kd.R_below (by (with_reducible repeat (first | apply Kd.R_alloc | apply Kd.R_drewN | apply Kd.R_drew)); exact HO635.out) hb); have n5_ := Aside0.mk (below_step (by repeat (first | (with_reducible first | exact HB.out | apply below_alloc | apply pw_below_drewN | apply below_drew1) | exact HB.out)) hb); clear HO_7; clear HO_9; clear HO_10; clear HO_13; clear HO635; clear HB; have HO_7 := n0_; have HO_9 := n1_; have HO_10 := n2_; have HO_13 := n3_; have HO635 := n4_; have HB := n5_; clear n0_ n1_ n2_ n3_ n4_ n5_; (try clear hb); (try clear hb2); (try clear hk); (try clear hi)))
      (try simp only [Act.put, List.setIfInBounds_toArray, List.set_cons_zero, List.set_cons_succ])
      go_cut [104] (fun v104 wc => ∃ (kq : Nat) (x104_43 : Bool), v104 = .bool x104_43 ∧ Aside0 (numnahlaw06_WettingSoaks.j2 kq t626 t627 t633 t637 x104_43 = some r) ∧ Aside0 (kq ≤ kj15) ∧ Aside0 (Kd.R (Kd.int .i64) 3 wc w.heap.size (fun k_ => some k_ ≠ ((.slice Ao46 t633.length co46) : Value).ownBlock) v628 t626) ∧ Aside0 (Kd.R (Kd.int .i64) 3 wc w.heap.size (fun k_ => some k_ ≠ (v628 : Value).ownBlock) (.slice Ao46 t633.length co46) t633) ∧ Aside0 (Below w.heap.size w wc))
      case first =>
       have H := HC44.out
       clear HC44
       replace H := Option.bind_eq_some_iff.mp H
       obtain ⟨t639, A480, H⟩ := H
       replace H : ((numnahlaw06_ints.f kj15 t621 t639).bind fun t642 => (if t642 = true then (if t622 = t638 then (numnahlaw06_WettingSoaks.j2 kj15 t626 t627 t633 t637 (t623 != 0)) else (numnahlaw06_WettingSoaks.j2 kj15 t626 t627 t633 t637 true)) else (numnahlaw06_WettingSoaks.j2 kj15 t626 t627 t633 t637 true))) = some r := H
       have A48 := Aside0.mk A480
       clear A480
       replace H := Option.bind_eq_some_iff.mp H
       obtain ⟨t642, A490, H⟩ := H
       replace H : (if t642 = true then (if t622 = t638 then (numnahlaw06_WettingSoaks.j2 kj15 t626 t627 t633 t637 (t623 != 0)) else (numnahlaw06_WettingSoaks.j2 kj15 t626 t627 t633 t637 true)) else (numnahlaw06_WettingSoaks.j2 kj15 t626 t627 t633 t637 true)) = some r := H
       have A49 := Aside0.mk A490
       clear A490
       by_cases c50 : t642 = true
       ·subst c50
        have H1 : (if t622 = t638 then (numnahlaw06_WettingSoaks.j2 kj15 t626 t627 t633 t637 (t623 != 0)) else (numnahlaw06_WettingSoaks.j2 kj15 t626 t627 t633 t637 true)) = some r := by rw [if_pos rfl] at H; exact H
        clear H
        have H := H1
        clear H1
        by_cases c51 : t622 = t638
        ·rw [if_pos c51] at H
         have c51b0 : (t622 == t638) = true := beq_iff_eq.mpr c51
         have c51b1 : (t622 != t638) = false := bne_eq_false_iff_eq.mpr c51
         clear c51
         (first | rw [c51b0] | (simp only [i64_w, i32_w]; rw [c51b0]) | skip)
         have H' := Aside0.mk H
         clear H
         go_wp2_with (first | ((with_reducible refine gate_callee (f := 25) rfl ?_); refine goesL_ (some 93) rfl rfl Tryd.func25 (by kernel_rfl) rfl #[.int .i64 t637] rfl (by (try simp only [List.map_toArray, List.map_cons, List.map_nil]); first | done | rfl | (simp only [List.length_drop, List.length_take]; rfl)) ?_; (with_reducible refine (numnahref06_List.calls kj15 t637 t639 _ A48.out).mono ?_); rintro e w52 ⟨v640, rfl, ho0, hb⟩; refine ⟨_, rfl, ?_⟩; have n0_ := Aside0.mk (Kd.R_below (by (with_reducible repeat (first | apply Kd.R_alloc | apply Kd.R_drewN | apply Kd.R_drew)); exact HO_7.out) hb); have n1_ := Aside0.mk (Kd.Q_elder' (by (with_reducible repeat (first | apply Kd.Q_alloc | apply Kd.Q_drewN | apply Kd.Q_drew)); exact HO_9.out) (Kd.R_base ho0) hb); have n2_ := Aside0.mk (Kd.R_elder' (by (with_reducible repeat (first | apply Kd.R_alloc | apply Kd.R_drewN | apply Kd.R_drew)); exact HO_10.out) (Kd.R_base ho0) hb); have n3_ := Aside0.mk (Kd.R_elder' (by (with_reducible repeat (first | apply Kd.R_alloc | apply Kd.R_drewN | apply Kd.R_drew)); exact HO_13.out) (Kd.R_base ho0) hb); have n4_ := Aside0.mk (Kd.R_elder' (by (with_reducible repeat (first | apply Kd.R_alloc | apply Kd.R_drewN | apply Kd.R_drew)); exact HO635.out) (Kd.R_base ho0) hb); have n5_ := Aside0.mk (Kd.R_lower (Kd.R_new' (Kd.R_new' (Kd.R_new' (Kd.R_new' ho0 (Kd.Q_lt (by (with_reducible repeat (first | apply Kd.Q_alloc | apply Kd.Q_drewN | apply Kd.Q_drew)); exact HO_9.out))) (Kd.R_lt (by (with_reducible repeat (first | apply Kd.R_alloc | apply Kd.R_drewN | apply Kd.R_drew)); exact HO_10.out))) (Kd.R_lt (by (with_reducible repeat (first | apply Kd.R_alloc | apply Kd.R_drewN | apply Kd.R_drew)); exact HO_13.out))) (Kd.R_lt (by (with_reducible repeat (first | apply Kd.R_alloc | apply Kd.R_drewN | apply Kd.R_drew)); exact HO635.out))) (below_size (by repeat (first | (with_reducible first | exact HB.out | apply below_alloc | apply pw_below_drewN | apply below_drew1) | exact HB.out)))); have n6_ := Aside0.mk (below_step (by repeat (first | (with_reducible first | exact HB.out | apply below_alloc | apply pw_below_drewN | apply below_drew1) | exact HB.out)) hb); clear HO_7; clear HO_9; clear HO_10; clear HO_13; clear HO635; clear HB; have HO_7 := n0_; have HO_9 := n1_; have HO_10 := n2_; have HO_13 := n3_; have HO635 := n4_; have HO641 := n5_; have HB := n6_; clear n0_ n1_ n2_ n3_ n4_ n5_ n6_; (try clear hb); (try clear hb2); (try clear hk); (try clear hi); (try clear ho0); obtain ⟨Ao53, co53, eo53⟩ := Kd.R_slice HO_10.out; subst eo53; obtain ⟨Ao54, co54, eo54⟩ := Kd.R_slice HO641.out; subst eo54) | ((with_reducible refine gate_callee (f := 24) rfl ?_); refine goesL_ (some 94) rfl rfl Tryd.func24 (by kernel_rfl) rfl #[.slice Ao53 t621.length co53, .slice Ao54 t639.length co54] rfl (by (try simp only [List.map_toArray, List.map_cons, List.map_nil]); first | done | rfl | (simp only [List.length_drop, List.length_take]; rfl)) ?_; (with_reducible refine (numnahlaw06_ints.calls kj15 _ _ t621 _ _ t639 true _ ?side1 ?side2 ?side3 ?side4 A49.out).mono ?_); (case side1 => repeat (first | exact (Kd.R_reads' HO_10.out).2.2 | (with_reducible refine Kd.C_alloc ?_ _) | (with_reducible refine Kd.C_drewN ?_ _) | (with_reducible refine Kd.C_drew ?_))); (case side2 => exact (Kd.R_reads' HO_10.out).2.1); (case side3 => repeat (first | exact (Kd.R_reads' HO641.out).2.2 | (with_reducible refine Kd.C_alloc ?_ _) | (with_reducible refine Kd.C_drewN ?_ _) | (with_reducible refine Kd.C_drew ?_))); (case side4 => exact (Kd.R_reads' HO641.out).2.1); rintro e w' ⟨rfl, ⟨nd, rfl⟩⟩; refine ⟨_, rfl, ?_⟩))
         go_meet
         case rel => exact ⟨_, ((t623 != 0)), (by first | rfl | (simp; done) | (simp [*]; done)), H', ⟨by have := HJ5.out; have := HJ15.out; first | omega | exact Nat.le_refl _⟩, ⟨by (with_reducible repeat (first | apply Kd.R_alloc | apply Kd.R_drewN | apply Kd.R_drew)); exact Kd.R_mono HO_13.out (fun _ hk => hk.1.2)⟩, ⟨by (with_reducible repeat (first | apply Kd.R_alloc | apply Kd.R_drewN | apply Kd.R_drew)); exact Kd.R_mono HO635.out (fun _ hk => hk.1.2)⟩, ⟨by repeat (first | (with_reducible first | exact HB.out | apply below_alloc | apply pw_below_drewN | apply below_drew1) | exact HB.out)⟩⟩
        ·rw [if_neg c51] at H
         have c51b0 : (t622 == t638) = false := beq_eq_false_iff_ne.mpr c51
         have c51b1 : (t622 != t638) = true := bne_iff_ne.mpr c51
         (first | rw [c51b0] | (simp only [i64_w, i32_w]; rw [c51b0]) | skip)
         have H' := Aside0.mk H
         clear H
         go_wp2_with (first | ((with_reducible refine gate_callee (f := 25) rfl ?_); refine goesL_ (some 93) rfl rfl Tryd.func25 (by kernel_rfl) rfl #[.int .i64 t637] rfl (by (try simp only [List.map_toArray, List.map_cons, List.map_nil]); first | done | rfl | (simp only [List.length_drop, List.length_take]; rfl)) ?_; (with_reducible refine (numnahref06_List.calls kj15 t637 t639 _ A48.out).mono ?_); rintro e w55 ⟨v640, rfl, ho0, hb⟩; refine ⟨_, rfl, ?_⟩; have n0_ := Aside0.mk (Kd.R_below (by (with_reducible repeat (first | apply Kd.R_alloc | apply Kd.R_drewN | apply Kd.R_drew)); exact HO_7.out) hb); have n1_ := Aside0.mk (Kd.Q_elder' (by (with_reducible repeat (first | apply Kd.Q_alloc | apply Kd.Q_drewN | apply Kd.Q_drew)); exact HO_9.out) (Kd.R_base ho0) hb); have n2_ := Aside0.mk (Kd.R_elder' (by (with_reducible repeat (first | apply Kd.R_alloc | apply Kd.R_drewN | apply Kd.R_drew)); exact HO_10.out) (Kd.R_base ho0) hb); have n3_ := Aside0.mk (Kd.R_elder' (by (with_reducible repeat (first | apply Kd.R_alloc | apply Kd.R_drewN | apply Kd.R_drew)); exact HO_13.out) (Kd.R_base ho0) hb); have n4_ := Aside0.mk (Kd.R_elder' (by (with_reducible repeat (first | apply Kd.R_alloc | apply Kd.R_drewN | apply Kd.R_drew)); exact HO635.out) (Kd.R_base ho0) hb); have n5_ := Aside0.mk (Kd.R_lower (Kd.R_new' (Kd.R_new' (Kd.R_new' (Kd.R_new' ho0 (Kd.Q_lt (by (with_reducible repeat (first | apply Kd.Q_alloc | apply Kd.Q_drewN | apply Kd.Q_drew)); exact HO_9.out))) (Kd.R_lt (by (with_reducible repeat (first | apply Kd.R_alloc | apply Kd.R_drewN | apply Kd.R_drew)); exact HO_10.out))) (Kd.R_lt (by (with_reducible repeat (first | apply Kd.R_alloc | apply Kd.R_drewN | apply Kd.R_drew)); exact HO_13.out))) (Kd.R_lt (by (with_reducible repeat (first | apply Kd.R_alloc | apply Kd.R_drewN | apply Kd.R_drew)); exact HO635.out))) (below_size (by repeat (first | (with_reducible first | exact HB.out | apply below_alloc | apply pw_below_drewN | apply below_drew1) | exact HB.out)))); have n6_ := Aside0.mk (below_step (by repeat (first | (with_reducible first | exact HB.out | apply below_alloc | apply pw_below_drewN | apply below_drew1) | exact HB.out)) hb); clear HO_7; clear HO_9; clear HO_10; clear HO_13; clear HO635; clear HB; have HO_7 := n0_; have HO_9 := n1_; have HO_10 := n2_; have HO_13 := n3_; have HO635 := n4_; have HO641 := n5_; have HB := n6_; clear n0_ n1_ n2_ n3_ n4_ n5_ n6_; (try clear hb); (try clear hb2); (try clear hk); (try clear hi); (try clear ho0); obtain ⟨Ao56, co56, eo56⟩ := Kd.R_slice HO_10.out; subst eo56; obtain ⟨Ao57, co57, eo57⟩ := Kd.R_slice HO641.out; subst eo57) | ((with_reducible refine gate_callee (f := 24) rfl ?_); refine goesL_ (some 94) rfl rfl Tryd.func24 (by kernel_rfl) rfl #[.slice Ao56 t621.length co56, .slice Ao57 t639.length co57] rfl (by (try simp only [List.map_toArray, List.map_cons, List.map_nil]); first | done | rfl | (simp only [List.length_drop, List.length_take]; rfl)) ?_; (with_reducible refine (numnahlaw06_ints.calls kj15 _ _ t621 _ _ t639 true _ ?side1 ?side2 ?side3 ?side4 A49.out).mono ?_); (case side1 => repeat (first | exact (Kd.R_reads' HO_10.out).2.2 | (with_reducible refine Kd.C_alloc ?_ _) | (with_reducible refine Kd.C_drewN ?_ _) | (with_reducible refine Kd.C_drew ?_))); (case side2 => exact (Kd.R_reads' HO_10.out).2.1); (case side3 => repeat (first | exact (Kd.R_reads' HO641.out).2.2 | (with_reducible refine Kd.C_alloc ?_ _) | (with_reducible refine Kd.C_drewN ?_ _) | (with_reducible refine Kd.C_drew ?_))); (case side4 => exact (Kd.R_reads' HO641.out).2.1); rintro e w' ⟨rfl, ⟨nd, rfl⟩⟩; refine ⟨_, rfl, ?_⟩))
         go_meet
         case rel => exact ⟨_, (true), (by first | rfl | (simp; done) | (simp [*]; done)), H', ⟨by have := HJ5.out; have := HJ15.out; first | omega | exact Nat.le_refl _⟩, ⟨by (with_reducible repeat (first | apply Kd.R_alloc | apply Kd.R_drewN | apply Kd.R_drew)); exact Kd.R_mono HO_13.out (fun _ hk => hk.1.2)⟩, ⟨by (with_reducible repeat (first | apply Kd.R_alloc | apply Kd.R_drewN | apply Kd.R_drew)); exact Kd.R_mono HO635.out (fun _ hk => hk.1.2)⟩, ⟨by repeat (first | (with_reducible first | exact HB.out | apply below_alloc | apply pw_below_drewN | apply below_drew1) | exact HB.out)⟩⟩
       ·replace c50 := Bool.eq_false_iff.mpr c50
        subst c50
        have H1 : (numnahlaw06_WettingSoaks.j2 kj15 t626 t627 t633 t637 true) = some r := by rw [if_neg (show ¬ (false = true) by decide)] at H; exact H
        clear H
        have H := H1
        clear H1
        have H' := Aside0.mk H
        clear H
        go_wp2_with (first | ((with_reducible refine gate_callee (f := 25) rfl ?_); refine goesL_ (some 93) rfl rfl Tryd.func25 (by kernel_rfl) rfl #[.int .i64 t637] rfl (by (try simp only [List.map_toArray, List.map_cons, List.map_nil]); first | done | rfl | (simp only [List.length_drop, List.length_take]; rfl)) ?_; (with_reducible refine (numnahref06_List.calls kj15 t637 t639 _ A48.out).mono ?_); rintro e w58 ⟨v640, rfl, ho0, hb⟩; refine ⟨_, rfl, ?_⟩; have n0_ := Aside0.mk (Kd.R_below (by (with_reducible repeat (first | apply Kd.R_alloc | apply Kd.R_drewN | apply Kd.R_drew)); exact HO_7.out) hb); have n1_ := Aside0.mk (Kd.Q_elder' (by (with_reducible repeat (first | apply Kd.Q_alloc | apply Kd.Q_drewN | apply Kd.Q_drew)); exact HO_9.out) (Kd.R_base ho0) hb); have n2_ := Aside0.mk (Kd.R_elder' (by (with_reducible repeat (first | apply Kd.R_alloc | apply Kd.R_drewN | apply Kd.R_drew)); exact HO_10.out) (Kd.R_base ho0) hb); have n3_ := Aside0.mk (Kd.R_elder' (by (with_reducible repeat (first | apply Kd.R_alloc | apply Kd.R_drewN | apply Kd.R_drew)); exact HO_13.out) (Kd.R_base ho0) hb); have n4_ := Aside0.mk (Kd.R_elder' (by (with_reducible repeat (first | apply Kd.R_alloc | apply Kd.R_drewN | apply Kd.R_drew)); exact HO635.out) (Kd.R_base ho0) hb); have n5_ := Aside0.mk (Kd.R_lower (Kd.R_new' (Kd.R_new' (Kd.R_new' (Kd.R_new' ho0 (Kd.Q_lt (by (with_reducible repeat (first | apply Kd.Q_alloc | apply Kd.Q_drewN | apply Kd.Q_drew)); exact HO_9.out))) (Kd.R_lt (by (with_reducible repeat (first | apply Kd.R_alloc | apply Kd.R_drewN | apply Kd.R_drew)); exact HO_10.out))) (Kd.R_lt (by (with_reducible repeat (first | apply Kd.R_alloc | apply Kd.R_drewN | apply Kd.R_drew)); exact HO_13.out))) (Kd.R_lt (by (with_reducible repeat (first | apply Kd.R_alloc | apply Kd.R_drewN | apply Kd.R_drew)); exact HO635.out))) (below_size (by repeat (first | (with_reducible first | exact HB.out | apply below_alloc | apply pw_below_drewN | apply below_drew1) | exact HB.out)))); have n6_ := Aside0.mk (below_step (by repeat (first | (with_reducible first | exact HB.out | apply below_alloc | apply pw_below_drewN | apply below_drew1) | exact HB.out)) hb); clear HO_7; clear HO_9; clear HO_10; clear HO_13; clear HO635; clear HB; have HO_7 := n0_; have HO_9 := n1_; have HO_10 := n2_; have HO_13 := n3_; have HO635 := n4_; have HO641 := n5_; have HB := n6_; clear n0_ n1_ n2_ n3_ n4_ n5_ n6_; (try clear hb); (try clear hb2); (try clear hk); (try clear hi); (try clear ho0); obtain ⟨Ao59, co59, eo59⟩ := Kd.R_slice HO_10.out; subst eo59; obtain ⟨Ao60, co60, eo60⟩ := Kd.R_slice HO641.out; subst eo60) | ((with_reducible refine gate_callee (f := 24) rfl ?_); refine goesL_ (some 94) rfl rfl Tryd.func24 (by kernel_rfl) rfl #[.slice Ao59 t621.length co59, .slice Ao60 t639.length co60] rfl (by (try simp only [List.map_toArray, List.map_cons, List.map_nil]); first | done | rfl | (simp only [List.length_drop, List.length_take]; rfl)) ?_; (with_reducible refine (numnahlaw06_ints.calls kj15 _ _ t621 _ _ t639 false _ ?side1 ?side2 ?side3 ?side4 A49.out).mono ?_); (case side1 => repeat (first | exact (Kd.R_reads' HO_10.out).2.2 | (with_reducible refine Kd.C_alloc ?_ _) | (with_reducible refine Kd.C_drewN ?_ _) | (with_reducible refine Kd.C_drew ?_))); (case side2 => exact (Kd.R_reads' HO_10.out).2.1); (case side3 => repeat (first | exact (Kd.R_reads' HO641.out).2.2 | (with_reducible refine Kd.C_alloc ?_ _) | (with_reducible refine Kd.C_drewN ?_ _) | (with_reducible refine Kd.C_drew ?_))); (case side4 => exact (Kd.R_reads' HO641.out).2.1); rintro e w' ⟨rfl, ⟨nd, rfl⟩⟩; refine ⟨_, rfl, ?_⟩))
        go_meet
        case rel => exact ⟨_, (true), (by first | rfl | (simp; done) | (simp [*]; done)), H', ⟨by have := HJ5.out; have := HJ15.out; first | omega | exact Nat.le_refl _⟩, ⟨by (with_reducible repeat (first | apply Kd.R_alloc | apply Kd.R_drewN | apply Kd.R_drew)); exact Kd.R_mono HO_13.out (fun _ hk => hk.1.2)⟩, ⟨by (with_reducible repeat (first | apply Kd.R_alloc | apply Kd.R_drewN | apply Kd.R_drew)); exact Kd.R_mono HO635.out (fun _ hk => hk.1.2)⟩, ⟨by repeat (first | (with_reducible first | exact HB.out | apply below_alloc | apply pw_below_drewN | apply below_drew1) | exact HB.out)⟩⟩
      case rest =>
       clear HC44
       try clear c1
       try clear q1
       try clear c2
       try clear p2
       try clear c3
       try clear c4
       try clear c5
       try clear p6
       try clear q6
       try clear hx6
       try clear qi6
       try clear c10
       try clear c10b0
       try clear c10b1
       try clear c11
       try clear c11b0
       try clear c11b1
       try clear c12
       try clear c12b0
       try clear c12b1
       try clear c13
       try clear q13
       try clear c17
       try clear c22
       try clear c24
       try clear c25
       try clear c25b0
       try clear c25b1
       try clear c25b2
       try clear c26
       try clear c26b0
       try clear c26b1
       try clear c27
       try clear c27b0
       try clear c27b1
       try clear c28
       try clear c28b0
       try clear c28b1
       try clear c28b2
       try clear c29
       try clear c29b0
       try clear c29b1
       try clear c32
       try clear c36
       try clear c39
       try clear c48
       try clear c49
       try clear c50
       try clear c51
       try clear c51b0
       try clear c51b1
       try clear hx617_0
       try clear p2
       try clear p6
       try clear p617
       try clear q1
       try clear q13
       try clear q6
       try clear q617
       obtain ⟨kq, x104_43, rfl, HA, HJ43, HO_13, HO_15, HB⟩ := hcut
       cases kq with
       | zero => exact absurd HA.out (by simp [numnahlaw06_WettingSoaks.j2])
       | succ kj43 =>
        have H := HA.out
        clear HA
        simp only [numnahlaw06_WettingSoaks.j2] at H
        by_cases c61 : x104_43 = true
        ·subst c61
         have H1 : (some false) = some r := by rw [if_pos rfl] at H; exact H
         clear H
         have H := H1
         clear H1
         obtain rfl := Option.some.inj H
         go_wp2
         go_ret
         exact ⟨by first | rfl | (simp [errW_none, errW_some] <;> rfl) | (simp [*, errW_none, errW_some] <;> rfl), by repeat (first | (with_reducible first | exact HB.out | apply below_alloc | apply pw_below_drewN | apply below_drew1) | exact HB.out)⟩
        ·replace c61 := Bool.eq_false_iff.mpr c61
         subst c61
         have H1 : ((numnahref06_All.f t633).bind fun t643 => (if t637 = t643 then (if (t626.length : Int) = 0 then (if t627 = 6 then ((numnahlaw06_awake.f).bind fun t644 => (some t644)) else (some false)) else (some false)) else ((numnahref06_All.f t633).bind fun t645 => ((numnahref06_List.f kj43 (wrap64 (t645 - t637))).bind fun t646 => ((numnahlaw06_ints.f kj43 t626 t646).bind fun t649 => (if t649 = true then (if t627 = 0 then ((numnahlaw06_awake.f).bind fun t650 => (some t650)) else (some false)) else (some false))))))) = some r := by rw [if_neg (show ¬ (false = true) by decide)] at H; exact H
         clear H
         have H := H1
         clear H1
         replace H := Option.bind_eq_some_iff.mp H
         obtain ⟨t643, A620, H⟩ := H
         replace H : (if t637 = t643 then (if (t626.length : Int) = 0 then (if t627 = 6 then ((numnahlaw06_awake.f).bind fun t644 => (some t644)) else (some false)) else (some false)) else ((numnahref06_All.f t633).bind fun t645 => ((numnahref06_List.f kj43 (wrap64 (t645 - t637))).bind fun t646 => ((numnahlaw06_ints.f kj43 t626 t646).bind fun t649 => (if t649 = true then (if t627 = 0 then ((numnahlaw06_awake.f).bind fun t650 => (some t650)) else (some false)) else (some false)))))) = some r := H
         have A62 := Aside0.mk A620
         clear A620
         by_cases c63 : t637 = t643
         ·rw [if_pos c63] at H
          have c63b0 : (t637 == t643) = true := beq_iff_eq.mpr c63
          have c63b1 : (t637 != t643) = false := bne_eq_false_iff_eq.mpr c63
          clear c63
          by_cases c64 : (t626.length : Int) = 0
          ·rw [if_pos c64] at H
           have c64b0 : ((t626.length : Int) == 0) = true := beq_iff_eq.mpr c64
           have c64b1 : ((t626.length : Int) != 0) = false := bne_eq_false_iff_eq.mpr c64
           clear c64
           by_cases c65 : t627 = 6
           ·rw [if_pos c65] at H
            have c65b0 : (t627 == 6) = true := beq_iff_eq.mpr c65
            have c65b1 : (t627 != 6) = false := bne_eq_false_iff_eq.mpr c65
            clear c65
            replace H := Option.bind_eq_some_iff.mp H
            obtain ⟨t644, A660, H⟩ := H
            replace H : (some t644) = some r := H
            have A66 := Aside0.mk A660
            clear A660
            obtain rfl := Option.some.inj H
            go_wp2_with (first | ((with_reducible refine gate_callee (f := 47) rfl ?_); refine goesL_ (some 107) rfl rfl Tryd.func47 (by kernel_rfl) rfl #[.slice Ao46 t633.length co46] rfl (by (try simp only [List.map_toArray, List.map_cons, List.map_nil]); first | done | rfl | (simp only [List.length_drop, List.length_take]; rfl)) ?_; (with_reducible refine (numnahref06_All.calls _ _ t633 t643 _ ?side1 ?side2 A62.out).mono ?_); (case side1 => repeat (first | exact (Kd.R_reads' HO_15.out).2.2 | (with_reducible refine Kd.C_alloc ?_ _) | (with_reducible refine Kd.C_drewN ?_ _) | (with_reducible refine Kd.C_drew ?_))); (case side2 => exact (Kd.R_reads' HO_15.out).2.1); rintro e w' ⟨rfl, ⟨nd, rfl⟩⟩; refine ⟨_, rfl, ?_⟩; obtain ⟨Ao67, co67, eo67⟩ := Kd.R_slice HO_13.out; subst eo67) | (go_at_call 21; (with_reducible refine (numnahlaw06_awake.calls  t644 _ A66.out ?sideT).mono ?_); (case sideT => exact tab_of (by repeat (first | (with_reducible first | exact HB.out | apply below_alloc | apply pw_below_drewN | apply below_drew1) | exact HB.out)) HT.out); rintro e w68 ⟨rfl, hb⟩; have n0_ := Aside0.mk (Kd.R_below (by (with_reducible repeat (first | apply Kd.R_alloc | apply Kd.R_drewN | apply Kd.R_drew)); exact HO_13.out) hb); have n1_ := Aside0.mk (Kd.R_below (by (with_reducible repeat (first | apply Kd.R_alloc | apply Kd.R_drewN | apply Kd.R_drew)); exact HO_15.out) hb); have n2_ := Aside0.mk (below_step (by repeat (first | (with_reducible first | exact HB.out | apply below_alloc | apply pw_below_drewN | apply below_drew1) | exact HB.out)) hb); clear HO_13; clear HO_15; clear HB; have HO_13 := n0_; have HO_15 := n1_; have HB := n2_; clear n0_ n1_ n2_; (try clear hb); (try clear hb2); (try clear hk); (try clear hi)))
            go_ret
            exact ⟨by first | rfl | (simp [errW_none, errW_some] <;> rfl) | (simp [*, errW_none, errW_some] <;> rfl), by repeat (first | (with_reducible first | exact HB.out | apply below_alloc | apply pw_below_drewN | apply below_drew1) | exact HB.out)⟩
           ·rw [if_neg c65] at H
            have c65b0 : (t627 == 6) = false := beq_eq_false_iff_ne.mpr c65
            have c65b1 : (t627 != 6) = true := bne_iff_ne.mpr c65
            obtain rfl := Option.some.inj H
            go_wp2_with (first | ((with_reducible refine gate_callee (f := 47) rfl ?_); refine goesL_ (some 107) rfl rfl Tryd.func47 (by kernel_rfl) rfl #[.slice Ao46 t633.length co46] rfl (by (try simp only [List.map_toArray, List.map_cons, List.map_nil]); first | done | rfl | (simp only [List.length_drop, List.length_take]; rfl)) ?_; (with_reducible refine (numnahref06_All.calls _ _ t633 t643 _ ?side1 ?side2 A62.out).mono ?_); (case side1 => repeat (first | exact (Kd.R_reads' HO_15.out).2.2 | (with_reducible refine Kd.C_alloc ?_ _) | (with_reducible refine Kd.C_drewN ?_ _) | (with_reducible refine Kd.C_drew ?_))); (case side2 => exact (Kd.R_reads' HO_15.out).2.1); rintro e w' ⟨rfl, ⟨nd, rfl⟩⟩; refine ⟨_, rfl, ?_⟩; obtain ⟨Ao69, co69, eo69⟩ := Kd.R_slice HO_13.out; subst eo69))
            go_ret
            exact ⟨by first | rfl | (simp [errW_none, errW_some] <;> rfl) | (simp [*, errW_none, errW_some] <;> rfl), by repeat (first | (with_reducible first | exact HB.out | apply below_alloc | apply pw_below_drewN | apply below_drew1) | exact HB.out)⟩
          ·rw [if_neg c64] at H
           have c64b0 : ((t626.length : Int) == 0) = false := beq_eq_false_iff_ne.mpr c64
           have c64b1 : ((t626.length : Int) != 0) = true := bne_iff_ne.mpr c64
           have c64b2 : ¬ (t626 = []) := fun h_ => c64 (by rw [h_]; rfl)
           obtain rfl := Option.some.inj H
           go_wp2_with (first | ((with_reducible refine gate_callee (f := 47) rfl ?_); refine goesL_ (some 107) rfl rfl Tryd.func47 (by kernel_rfl) rfl #[.slice Ao46 t633.length co46] rfl (by (try simp only [List.map_toArray, List.map_cons, List.map_nil]); first | done | rfl | (simp only [List.length_drop, List.length_take]; rfl)) ?_; (with_reducible refine (numnahref06_All.calls _ _ t633 t643 _ ?side1 ?side2 A62.out).mono ?_); (case side1 => repeat (first | exact (Kd.R_reads' HO_15.out).2.2 | (with_reducible refine Kd.C_alloc ?_ _) | (with_reducible refine Kd.C_drewN ?_ _) | (with_reducible refine Kd.C_drew ?_))); (case side2 => exact (Kd.R_reads' HO_15.out).2.1); rintro e w' ⟨rfl, ⟨nd, rfl⟩⟩; refine ⟨_, rfl, ?_⟩; obtain ⟨Ao70, co70, eo70⟩ := Kd.R_slice HO_13.out; subst eo70))
           go_ret
           exact ⟨by first | rfl | (simp [errW_none, errW_some] <;> rfl) | (simp [*, errW_none, errW_some] <;> rfl), by repeat (first | (with_reducible first | exact HB.out | apply below_alloc | apply pw_below_drewN | apply below_drew1) | exact HB.out)⟩
         ·rw [if_neg c63] at H
          have c63b0 : (t637 == t643) = false := beq_eq_false_iff_ne.mpr c63
          have c63b1 : (t637 != t643) = true := bne_iff_ne.mpr c63
          replace H := Option.bind_eq_some_iff.mp H
          obtain ⟨t645, A710, H⟩ := H
          replace H : ((numnahref06_List.f kj43 (wrap64 (t645 - t637))).bind fun t646 => ((numnahlaw06_ints.f kj43 t626 t646).bind fun t649 => (if t649 = true then (if t627 = 0 then ((numnahlaw06_awake.f).bind fun t650 => (some t650)) else (some false)) else (some false)))) = some r := H
          have A71 := Aside0.mk A710
          clear A710
          replace H := Option.bind_eq_some_iff.mp H
          obtain ⟨t646, A720, H⟩ := H
          replace H : ((numnahlaw06_ints.f kj43 t626 t646).bind fun t649 => (if t649 = true then (if t627 = 0 then ((numnahlaw06_awake.f).bind fun t650 => (some t650)) else (some false)) else (some false))) = some r := H
          have A72 := Aside0.mk A720
          clear A720
          replace H := Option.bind_eq_some_iff.mp H
          obtain ⟨t649, A730, H⟩ := H
          replace H : (if t649 = true then (if t627 = 0 then ((numnahlaw06_awake.f).bind fun t650 => (some t650)) else (some false)) else (some false)) = some r := H
          have A73 := Aside0.mk A730
          clear A730
          by_cases c74 : t649 = true
          ·subst c74
           have H1 : (if t627 = 0 then ((numnahlaw06_awake.f).bind fun t650 => (some t650)) else (some false)) = some r := by rw [if_pos rfl] at H; exact H
           clear H
           have H := H1
           clear H1
           by_cases c75 : t627 = 0
           ·rw [if_pos c75] at H
            have c75b0 : (t627 == 0) = true := beq_iff_eq.mpr c75
            have c75b1 : (t627 != 0) = false := bne_eq_false_iff_eq.mpr c75
            clear c75
            replace H := Option.bind_eq_some_iff.mp H
            obtain ⟨t650, A760, H⟩ := H
            replace H : (some t650) = some r := H
            have A76 := Aside0.mk A760
            clear A760
            obtain rfl := Option.some.inj H
            go_wp2_with (first | ((with_reducible refine gate_callee (f := 47) rfl ?_); refine goesL_ (some 107) rfl rfl Tryd.func47 (by kernel_rfl) rfl #[.slice Ao46 t633.length co46] rfl (by (try simp only [List.map_toArray, List.map_cons, List.map_nil]); first | done | rfl | (simp only [List.length_drop, List.length_take]; rfl)) ?_; (with_reducible refine (numnahref06_All.calls _ _ t633 t643 _ ?side1 ?side2 A62.out).mono ?_); (case side1 => repeat (first | exact (Kd.R_reads' HO_15.out).2.2 | (with_reducible refine Kd.C_alloc ?_ _) | (with_reducible refine Kd.C_drewN ?_ _) | (with_reducible refine Kd.C_drew ?_))); (case side2 => exact (Kd.R_reads' HO_15.out).2.1); rintro e w' ⟨rfl, ⟨nd, rfl⟩⟩; refine ⟨_, rfl, ?_⟩) | ((with_reducible refine gate_callee (f := 47) rfl ?_); refine goesL_ (some 121) rfl rfl Tryd.func47 (by kernel_rfl) rfl #[.slice Ao46 t633.length co46] rfl (by (try simp only [List.map_toArray, List.map_cons, List.map_nil]); first | done | rfl | (simp only [List.length_drop, List.length_take]; rfl)) ?_; (with_reducible refine (numnahref06_All.calls _ _ t633 t645 _ ?side1 ?side2 A71.out).mono ?_); (case side1 => repeat (first | exact (Kd.R_reads' HO_15.out).2.2 | (with_reducible refine Kd.C_alloc ?_ _) | (with_reducible refine Kd.C_drewN ?_ _) | (with_reducible refine Kd.C_drew ?_))); (case side2 => exact (Kd.R_reads' HO_15.out).2.1); rintro e w' ⟨rfl, ⟨nd, rfl⟩⟩; refine ⟨_, rfl, ?_⟩) | ((with_reducible refine gate_callee (f := 25) rfl ?_); refine goesL_ (some 124) rfl rfl Tryd.func25 (by kernel_rfl) rfl #[.int .i64 (wrap64 (t645 - t637))] rfl (by (try simp only [List.map_toArray, List.map_cons, List.map_nil]); first | done | rfl | (simp only [List.length_drop, List.length_take]; rfl)) ?_; (with_reducible refine (numnahref06_List.calls kj43 (wrap64 (t645 - t637)) t646 _ A72.out).mono ?_); rintro e w77 ⟨v647, rfl, ho0, hb⟩; refine ⟨_, rfl, ?_⟩; have n0_ := Aside0.mk (Kd.R_elder' (by (with_reducible repeat (first | apply Kd.R_alloc | apply Kd.R_drewN | apply Kd.R_drew)); exact HO_13.out) (Kd.R_base ho0) hb); have n1_ := Aside0.mk (Kd.R_elder' (by (with_reducible repeat (first | apply Kd.R_alloc | apply Kd.R_drewN | apply Kd.R_drew)); exact HO_15.out) (Kd.R_base ho0) hb); have n2_ := Aside0.mk (Kd.R_lower (Kd.R_new' (Kd.R_new' ho0 (Kd.R_lt (by (with_reducible repeat (first | apply Kd.R_alloc | apply Kd.R_drewN | apply Kd.R_drew)); exact HO_13.out))) (Kd.R_lt (by (with_reducible repeat (first | apply Kd.R_alloc | apply Kd.R_drewN | apply Kd.R_drew)); exact HO_15.out))) (below_size (by repeat (first | (with_reducible first | exact HB.out | apply below_alloc | apply pw_below_drewN | apply below_drew1) | exact HB.out)))); have n3_ := Aside0.mk (below_step (by repeat (first | (with_reducible first | exact HB.out | apply below_alloc | apply pw_below_drewN | apply below_drew1) | exact HB.out)) hb); clear HO_13; clear HO_15; clear HB; have HO_13 := n0_; have HO_15 := n1_; have HO648 := n2_; have HB := n3_; clear n0_ n1_ n2_ n3_; (try clear hb); (try clear hb2); (try clear hk); (try clear hi); (try clear ho0); obtain ⟨Ao78, co78, eo78⟩ := Kd.R_slice HO_13.out; subst eo78; obtain ⟨Ao79, co79, eo79⟩ := Kd.R_slice HO648.out; subst eo79) | ((with_reducible refine gate_callee (f := 24) rfl ?_); refine goesL_ (some 125) rfl rfl Tryd.func24 (by kernel_rfl) rfl #[.slice Ao78 t626.length co78, .slice Ao79 t646.length co79] rfl (by (try simp only [List.map_toArray, List.map_cons, List.map_nil]); first | done | rfl | (simp only [List.length_drop, List.length_take]; rfl)) ?_; (with_reducible refine (numnahlaw06_ints.calls kj43 _ _ t626 _ _ t646 true _ ?side1 ?side2 ?side3 ?side4 A73.out).mono ?_); (case side1 => repeat (first | exact (Kd.R_reads' HO_13.out).2.2 | (with_reducible refine Kd.C_alloc ?_ _) | (with_reducible refine Kd.C_drewN ?_ _) | (with_reducible refine Kd.C_drew ?_))); (case side2 => exact (Kd.R_reads' HO_13.out).2.1); (case side3 => repeat (first | exact (Kd.R_reads' HO648.out).2.2 | (with_reducible refine Kd.C_alloc ?_ _) | (with_reducible refine Kd.C_drewN ?_ _) | (with_reducible refine Kd.C_drew ?_))); (case side4 => exact (Kd.R_reads' HO648.out).2.1); rintro e w' ⟨rfl, ⟨nd, rfl⟩⟩; refine ⟨_, rfl, ?_⟩) | (go_at_call 21; (with_reducible refine (numnahlaw06_awake.calls  t650 _ A76.out ?sideT).mono ?_); (case sideT => exact tab_of (by repeat (first | (with_reducible first | exact HB.out | apply below_alloc | apply pw_below_drewN | apply below_drew1) | exact HB.out)) HT.out); rintro e w80 ⟨rfl, hb⟩; have n0_ := Aside0.mk (Kd.R_below (by (with_reducible repeat (first | apply Kd.R_alloc | apply Kd.R_drewN | apply Kd.R_drew)); exact HO_13.out) hb); have n1_ := Aside0.mk (Kd.R_below (by (with_reducible repeat (first | apply Kd.R_alloc | apply Kd.R_drewN | apply Kd.R_drew)); exact HO_15.out) hb); have n2_ := Aside0.mk (Kd.R_below (by (with_reducible repeat (first | apply Kd.R_alloc | apply Kd.R_drewN | apply Kd.R_drew)); exact HO648.out) hb); have n3_ := Aside0.mk (below_step (by repeat (first | (with_reducible first | exact HB.out | apply below_alloc | apply pw_below_drewN | apply below_drew1) | exact HB.out)) hb); clear HO_13; clear HO_15; clear HO648; clear HB; have HO_13 := n0_; have HO_15 := n1_; have HO648 := n2_; have HB := n3_; clear n0_ n1_ n2_ n3_; (try clear hb); (try clear hb2); (try clear hk); (try clear hi)))
            go_ret
            exact ⟨by first | rfl | (simp [errW_none, errW_some] <;> rfl) | (simp [*, errW_none, errW_some] <;> rfl), by repeat (first | (with_reducible first | exact HB.out | apply below_alloc | apply pw_below_drewN | apply below_drew1) | exact HB.out)⟩
           ·rw [if_neg c75] at H
            have c75b0 : (t627 == 0) = false := beq_eq_false_iff_ne.mpr c75
            have c75b1 : (t627 != 0) = true := bne_iff_ne.mpr c75
            obtain rfl := Option.some.inj H
            go_wp2_with (first | ((with_reducible refine gate_callee (f := 47) rfl ?_); refine goesL_ (some 107) rfl rfl Tryd.func47 (by kernel_rfl) rfl #[.slice Ao46 t633.length co46] rfl (by (try simp only [List.map_toArray, List.map_cons, List.map_nil]); first | done | rfl | (simp only [List.length_drop, List.length_take]; rfl)) ?_; (with_reducible refine (numnahref06_All.calls _ _ t633 t643 _ ?side1 ?side2 A62.out).mono ?_); (case side1 => repeat (first | exact (Kd.R_reads' HO_15.out).2.2 | (with_reducible refine Kd.C_alloc ?_ _) | (with_reducible refine Kd.C_drewN ?_ _) | (with_reducible refine Kd.C_drew ?_))); (case side2 => exact (Kd.R_reads' HO_15.out).2.1); rintro e w' ⟨rfl, ⟨nd, rfl⟩⟩; refine ⟨_, rfl, ?_⟩) | ((with_reducible refine gate_callee (f := 47) rfl ?_); refine goesL_ (some 121) rfl rfl Tryd.func47 (by kernel_rfl) rfl #[.slice Ao46 t633.length co46] rfl (by (try simp only [List.map_toArray, List.map_cons, List.map_nil]); first | done | rfl | (simp only [List.length_drop, List.length_take]; rfl)) ?_; (with_reducible refine (numnahref06_All.calls _ _ t633 t645 _ ?side1 ?side2 A71.out).mono ?_); (case side1 => repeat (first | exact (Kd.R_reads' HO_15.out).2.2 | (with_reducible refine Kd.C_alloc ?_ _) | (with_reducible refine Kd.C_drewN ?_ _) | (with_reducible refine Kd.C_drew ?_))); (case side2 => exact (Kd.R_reads' HO_15.out).2.1); rintro e w' ⟨rfl, ⟨nd, rfl⟩⟩; refine ⟨_, rfl, ?_⟩) | ((with_reducible refine gate_callee (f := 25) rfl ?_); refine goesL_ (some 124) rfl rfl Tryd.func25 (by kernel_rfl) rfl #[.int .i64 (wrap64 (t645 - t637))] rfl (by (try simp only [List.map_toArray, List.map_cons, List.map_nil]); first | done | rfl | (simp only [List.length_drop, List.length_take]; rfl)) ?_; (with_reducible refine (numnahref06_List.calls kj43 (wrap64 (t645 - t637)) t646 _ A72.out).mono ?_); rintro e w81 ⟨v647, rfl, ho0, hb⟩; refine ⟨_, rfl, ?_⟩; have n0_ := Aside0.mk (Kd.R_elder' (by (with_reducible repeat (first | apply Kd.R_alloc | apply Kd.R_drewN | apply Kd.R_drew)); exact HO_13.out) (Kd.R_base ho0) hb); have n1_ := Aside0.mk (Kd.R_elder' (by (with_reducible repeat (first | apply Kd.R_alloc | apply Kd.R_drewN | apply Kd.R_drew)); exact HO_15.out) (Kd.R_base ho0) hb); have n2_ := Aside0.mk (Kd.R_lower (Kd.R_new' (Kd.R_new' ho0 (Kd.R_lt (by (with_reducible repeat (first | apply Kd.R_alloc | apply Kd.R_drewN | apply Kd.R_drew)); exact HO_13.out))) (Kd.R_lt (by (with_reducible repeat (first | apply Kd.R_alloc | apply Kd.R_drewN | apply Kd.R_drew)); exact HO_15.out))) (below_size (by repeat (first | (with_reducible first | exact HB.out | apply below_alloc | apply pw_below_drewN | apply below_drew1) | exact HB.out)))); have n3_ := Aside0.mk (below_step (by repeat (first | (with_reducible first | exact HB.out | apply below_alloc | apply pw_below_drewN | apply below_drew1) | exact HB.out)) hb); clear HO_13; clear HO_15; clear HB; have HO_13 := n0_; have HO_15 := n1_; have HO648 := n2_; have HB := n3_; clear n0_ n1_ n2_ n3_; (try clear hb); (try clear hb2); (try clear hk); (try clear hi); (try clear ho0); obtain ⟨Ao82, co82, eo82⟩ := Kd.R_slice HO_13.out; subst eo82; obtain ⟨Ao83, co83, eo83⟩ := Kd.R_slice HO648.out; subst eo83) | ((with_reducible refine gate_callee (f := 24) rfl ?_); refine goesL_ (some 125) rfl rfl Tryd.func24 (by kernel_rfl) rfl #[.slice Ao82 t626.length co82, .slice Ao83 t646.length co83] rfl (by (try simp only [List.map_toArray, List.map_cons, List.map_nil]); first | done | rfl | (simp only [List.length_drop, List.length_take]; rfl)) ?_; (with_reducible refine (numnahlaw06_ints.calls kj43 _ _ t626 _ _ t646 true _ ?side1 ?side2 ?side3 ?side4 A73.out).mono ?_); (case side1 => repeat (first | exact (Kd.R_reads' HO_13.out).2.2 | (with_reducible refine Kd.C_alloc ?_ _) | (with_reducible refine Kd.C_drewN ?_ _) | (with_reducible refine Kd.C_drew ?_))); (case side2 => exact (Kd.R_reads' HO_13.out).2.1); (case side3 => repeat (first | exact (Kd.R_reads' HO648.out).2.2 | (with_reducible refine Kd.C_alloc ?_ _) | (with_reducible refine Kd.C_drewN ?_ _) | (with_reducible refine Kd.C_drew ?_))); (case side4 => exact (Kd.R_reads' HO648.out).2.1); rintro e w' ⟨rfl, ⟨nd, rfl⟩⟩; refine ⟨_, rfl, ?_⟩))
            go_ret
            exact ⟨by first | rfl | (simp [errW_none, errW_some] <;> rfl) | (simp [*, errW_none, errW_some] <;> rfl), by repeat (first | (with_reducible first | exact HB.out | apply below_alloc | apply pw_below_drewN | apply below_drew1) | exact HB.out)⟩
          ·replace c74 := Bool.eq_false_iff.mpr c74
           subst c74
           have H1 : (some false) = some r := by rw [if_neg (show ¬ (false = true) by decide)] at H; exact H
           clear H
           have H := H1
           clear H1
           obtain rfl := Option.some.inj H
           go_wp2_with (first | ((with_reducible refine gate_callee (f := 47) rfl ?_); refine goesL_ (some 107) rfl rfl Tryd.func47 (by kernel_rfl) rfl #[.slice Ao46 t633.length co46] rfl (by (try simp only [List.map_toArray, List.map_cons, List.map_nil]); first | done | rfl | (simp only [List.length_drop, List.length_take]; rfl)) ?_; (with_reducible refine (numnahref06_All.calls _ _ t633 t643 _ ?side1 ?side2 A62.out).mono ?_); (case side1 => repeat (first | exact (Kd.R_reads' HO_15.out).2.2 | (with_reducible refine Kd.C_alloc ?_ _) | (with_reducible refine Kd.C_drewN ?_ _) | (with_reducible refine Kd.C_drew ?_))); (case side2 => exact (Kd.R_reads' HO_15.out).2.1); rintro e w' ⟨rfl, ⟨nd, rfl⟩⟩; refine ⟨_, rfl, ?_⟩) | ((with_reducible refine gate_callee (f := 47) rfl ?_); refine goesL_ (some 121) rfl rfl Tryd.func47 (by kernel_rfl) rfl #[.slice Ao46 t633.length co46] rfl (by (try simp only [List.map_toArray, List.map_cons, List.map_nil]); first | done | rfl | (simp only [List.length_drop, List.length_take]; rfl)) ?_; (with_reducible refine (numnahref06_All.calls _ _ t633 t645 _ ?side1 ?side2 A71.out).mono ?_); (case side1 => repeat (first | exact (Kd.R_reads' HO_15.out).2.2 | (with_reducible refine Kd.C_alloc ?_ _) | (with_reducible refine Kd.C_drewN ?_ _) | (with_reducible refine Kd.C_drew ?_))); (case side2 => exact (Kd.R_reads' HO_15.out).2.1); rintro e w' ⟨rfl, ⟨nd, rfl⟩⟩; refine ⟨_, rfl, ?_⟩) | ((with_reducible refine gate_callee (f := 25) rfl ?_); refine goesL_ (some 124) rfl rfl Tryd.func25 (by kernel_rfl) rfl #[.int .i64 (wrap64 (t645 - t637))] rfl (by (try simp only [List.map_toArray, List.map_cons, List.map_nil]); first | done | rfl | (simp only [List.length_drop, List.length_take]; rfl)) ?_; (with_reducible refine (numnahref06_List.calls kj43 (wrap64 (t645 - t637)) t646 _ A72.out).mono ?_); rintro e w84 ⟨v647, rfl, ho0, hb⟩; refine ⟨_, rfl, ?_⟩; have n0_ := Aside0.mk (Kd.R_elder' (by (with_reducible repeat (first | apply Kd.R_alloc | apply Kd.R_drewN | apply Kd.R_drew)); exact HO_13.out) (Kd.R_base ho0) hb); have n1_ := Aside0.mk (Kd.R_elder' (by (with_reducible repeat (first | apply Kd.R_alloc | apply Kd.R_drewN | apply Kd.R_drew)); exact HO_15.out) (Kd.R_base ho0) hb); have n2_ := Aside0.mk (Kd.R_lower (Kd.R_new' (Kd.R_new' ho0 (Kd.R_lt (by (with_reducible repeat (first | apply Kd.R_alloc | apply Kd.R_drewN | apply Kd.R_drew)); exact HO_13.out))) (Kd.R_lt (by (with_reducible repeat (first | apply Kd.R_alloc | apply Kd.R_drewN | apply Kd.R_drew)); exact HO_15.out))) (below_size (by repeat (first | (with_reducible first | exact HB.out | apply below_alloc | apply pw_below_drewN | apply below_drew1) | exact HB.out)))); have n3_ := Aside0.mk (below_step (by repeat (first | (with_reducible first | exact HB.out | apply below_alloc | apply pw_below_drewN | apply below_drew1) | exact HB.out)) hb); clear HO_13; clear HO_15; clear HB; have HO_13 := n0_; have HO_15 := n1_; have HO648 := n2_; have HB := n3_; clear n0_ n1_ n2_ n3_; (try clear hb); (try clear hb2); (try clear hk); (try clear hi); (try clear ho0); obtain ⟨Ao85, co85, eo85⟩ := Kd.R_slice HO_13.out; subst eo85; obtain ⟨Ao86, co86, eo86⟩ := Kd.R_slice HO648.out; subst eo86) | ((with_reducible refine gate_callee (f := 24) rfl ?_); refine goesL_ (some 125) rfl rfl Tryd.func24 (by kernel_rfl) rfl #[.slice Ao85 t626.length co85, .slice Ao86 t646.length co86] rfl (by (try simp only [List.map_toArray, List.map_cons, List.map_nil]); first | done | rfl | (simp only [List.length_drop, List.length_take]; rfl)) ?_; (with_reducible refine (numnahlaw06_ints.calls kj43 _ _ t626 _ _ t646 false _ ?side1 ?side2 ?side3 ?side4 A73.out).mono ?_); (case side1 => repeat (first | exact (Kd.R_reads' HO_13.out).2.2 | (with_reducible refine Kd.C_alloc ?_ _) | (with_reducible refine Kd.C_drewN ?_ _) | (with_reducible refine Kd.C_drew ?_))); (case side2 => exact (Kd.R_reads' HO_13.out).2.1); (case side3 => repeat (first | exact (Kd.R_reads' HO648.out).2.2 | (with_reducible refine Kd.C_alloc ?_ _) | (with_reducible refine Kd.C_drewN ?_ _) | (with_reducible refine Kd.C_drew ?_))); (case side4 => exact (Kd.R_reads' HO648.out).2.1); rintro e w' ⟨rfl, ⟨nd, rfl⟩⟩; refine ⟨_, rfl, ?_⟩))
           go_ret
           exact ⟨by first | rfl | (simp [errW_none, errW_some] <;> rfl) | (simp [*, errW_none, errW_some] <;> rfl), by repeat (first | (with_reducible first | exact HB.out | apply below_alloc | apply pw_below_drewN | apply below_drew1) | exact HB.out)⟩

end Go.Proofs.YtpbeaaihdmfnlaaDoor.G

/- ### LSoaks -/
/- The law of Soak and Shelter, in plain words. -/
namespace Go.Proofs.YtpbeaaihdmfnlaaDoor.P
open Go Go.RowKit Go.Proofs.YtpbeaaihdmfnlaaDoor.M Go.Proofs.YtpbeaaihdmfnlaaDoor.H Go.Proofs.YtpbeaaihdmfnlaaDoor.G
open Go.Proofs.YtpbeaaihdmfnlaaDoorW.PrintWords Go.Proofs.YtpbeaaihdmfnlaaDoorW.PrintMore

theorem threshold_g (r : Int) : numnahlaw06_threshold.f r = some (decide (1 ≤ r ∧ r ≤ 6)) := by
  unfold numnahlaw06_threshold.f
  by_cases h : r ≥ 1
  · rw [if_pos h]; congr 1; rw [Bool.eq_iff_iff, decide_eq_true_iff, decide_eq_true_iff]; omega
  · rw [if_neg h]; congr 1; rw [eq_comm, decide_eq_false_iff_not]; omega
theorem soaks_j2 {n c : Nat} {near : Nat → Nat} (hn : n ≤ 12) (hc : c < 2 ^ n) (d : List Int) (e : Int) (hd : d = natsI (if c = full n then [] else bitsOf (andNot (full n) c))) (he : e = if c = full n then 6 else 0) : Ev (fun k => numnahlaw06_WettingSoaks.j2 k d e (R near n) (c : Int) false) true := by
  have h12 := p12 hn
  have hf := full_lt n n (Nat.le_refl n)
  refine Ev.step (f := fun k => (numnahref06_All.f (R near n)).bind fun t603 => (if (c : Int) = t603 then (if (d.length : Int) = 0 then (if e = 6 then ((numnahlaw06_awake.f).bind fun t604 => (some t604)) else (some false)) else (some false)) else ((numnahref06_All.f (R near n)).bind fun t605 => ((numnahref06_List.f k (wrap64 (t605 - (c : Int)))).bind fun t606 => ((numnahlaw06_ints.f k d t606).bind fun t609 => (if t609 = true then (if e = 0 then ((numnahlaw06_awake.f).bind fun t610 => (some t610)) else (some false)) else (some false))))))) (fun k => by simp only [numnahlaw06_WettingSoaks.j2]; rfl) ?_
  rw [all_ref hn]
  simp only [Option.bind_some]
  by_cases h : c = full n
  · rw [if_pos h] at hd he
    subst hd he
    refine Ev.congr (fun k => if_pos (by rw [h])) ?_
    exact ev_awake
  · rw [if_neg h] at hd he
    subst he
    refine Ev.congr (fun k => if_neg (by omega)) ?_
    have hs := full_sub hn hc
    have e1 : wrap64 (((full n : Nat) : Int) - (c : Int)) = ((andNot (full n) c : Nat) : Int) := by
      have : ((full n : Nat) : Int) < 4096 := by omega
      unfold wrap64; omega
    rw [e1]
    have ha : andNot (full n) c < 4096 := Nat.lt_of_lt_of_le (andNot_lt hf) h12
    refine Ev.bind (ev_list ha) ?_
    refine Ev.bind (ev_ints (by rw [hd, natsI_length]; have := card_lt64 ha; show card _ < _; omega)) ?_
    rw [decide_eq_true hd]
    exact ev_awake
theorem soaks_j (a0 : Int) (ha : inI a0) (l : List S48) (hl : l.length ≤ 80) (r : Int) (s : List Int) (hs : s.length ≤ 13) : Ev (fun k => numnahlaw06_WettingSoaks.j0 k a0 l r s) true := by
  have f1 : wetting_Soak.f a0 l s r = some (soakX a0 l s r) := by unfold wetting_Soak.f; rw [if_pos ⟨ha, fit_small (by omega), fit_small (by omega)⟩]
  have f2 : wetting_Shelter.f a0 l s r = some (shelterX a0 l s r) := by unfold wetting_Shelter.f; rw [if_pos ⟨ha, fit_small (by omega), fit_small (by omega)⟩]
  have bad : ∀ a : List Int × Int × Int, a = ([], 0, 2) → ∀ b : List Int × Int, b = ([], 2) → Ev (fun k => numnahlaw06_WettingSoaks.j1 k a0 l r s a.1 a.2.1 a.2.2 b.1 b.2 true) true := by
    rintro _ rfl _ rfl
    refine Ev.step (f := fun _ => (numnahlaw06_awake.f).bind fun t => some t) (fun k => ?_) ev_awake
    simp only [numnahlaw06_WettingSoaks.j1]
    rfl
  refine Ev.step (f := fun k => (numnahlaw06_valid.f k a0 l s).bind fun t630 => (if t630 = true then ((numnahlaw06_threshold.f r).bind fun t631 => (numnahlaw06_WettingSoaks.j1 k a0 l r s (soakX a0 l s r).1 (soakX a0 l s r).2.1 (soakX a0 l s r).2.2 (shelterX a0 l s r).1 (shelterX a0 l s r).2 (!t631))) else (numnahlaw06_WettingSoaks.j1 k a0 l r s (soakX a0 l s r).1 (soakX a0 l s r).2.1 (soakX a0 l s r).2.2 (shelterX a0 l s r).1 (shelterX a0 l s r).2 true))) (fun k => ?_) ?_
  · simp only [numnahlaw06_WettingSoaks.j0]
    rw [f1, f2]
    rfl
  rcases valid_cases a0 (l := l) (s := s) (by omega) (by omega) with ⟨n, t, rfl, hg, ht, rfl, hb, hv⟩ | ⟨hb, hv⟩
  · refine Ev.bind hv ?_
    refine Ev.congr (fun k => if_pos rfl) ?_
    rw [threshold_g]
    simp only [Option.bind_some]
    by_cases hc : 1 ≤ r ∧ r ≤ 6
    · have g := good_soaked (r := r) (near := nearOf l) (show n ≤ 64 by have := hg.le; omega)
      have e1 : soakX (n : Int) l (natsI (bitsOf t)) r = (natsI (bitsOf (cl (soakedM n (nearOf l) r) n t)), (countM (soakedM n (nearOf l) r) (2 ^ n) t : Int), 0) := by
        rw [← most_rounds hg.pos (by have := hg.le; omega) g]
        unfold soakX; rw [hb]; exact if_pos hc
      have e2 : shelterX (n : Int) l (natsI (bitsOf t)) r = (natsI (if cl (soakedM n (nearOf l) r) n t = full n then [] else bitsOf (andNot (full n) (cl (soakedM n (nearOf l) r) n t))), if cl (soakedM n (nearOf l) r) n t = full n then 6 else 0) := by unfold shelterX; rw [hb]; exact if_pos hc
      rw [decide_eq_true hc, e1, e2]
      have hcl := cl_lt g ht
      have hcl' : cl (soakedM n (nearOf l) r) n t < 4096 := Nat.lt_of_lt_of_le hcl (p12 hg.le)
      refine Ev.step (f := fun k => (numnahref06_Set.f k (natsI (bitsOf t))).bind fun t636 => ((numnahref06_Soak.f k (R (nearOf l) n) t636 r).bind fun bt637 => ((numnahref06_List.f k bt637.1).bind fun t639 => ((numnahlaw06_ints.f k (natsI (bitsOf (cl (soakedM n (nearOf l) r) n t))) t639).bind fun t642 => (if t642 = true then (if (countM (soakedM n (nearOf l) r) (2 ^ n) t : Int) = bt637.2 then (numnahlaw06_WettingSoaks.j2 k (natsI (if cl (soakedM n (nearOf l) r) n t = full n then [] else bitsOf (andNot (full n) (cl (soakedM n (nearOf l) r) n t)))) (if cl (soakedM n (nearOf l) r) n t = full n then 6 else 0) (R (nearOf l) n) bt637.1 ((0 : Int) != 0)) else (numnahlaw06_WettingSoaks.j2 k (natsI (if cl (soakedM n (nearOf l) r) n t = full n then [] else bitsOf (andNot (full n) (cl (soakedM n (nearOf l) r) n t)))) (if cl (soakedM n (nearOf l) r) n t = full n then 6 else 0) (R (nearOf l) n) bt637.1 true)) else (numnahlaw06_WettingSoaks.j2 k (natsI (if cl (soakedM n (nearOf l) r) n t = full n then [] else bitsOf (andNot (full n) (cl (soakedM n (nearOf l) r) n t)))) (if cl (soakedM n (nearOf l) r) n t = full n then 6 else 0) (R (nearOf l) n) bt637.1 true)))))) (fun k => ?_) ?_
      · simp only [numnahlaw06_WettingSoaks.j1]
        rw [near_ref hg (fit_small (by omega))]
        rfl
      · refine Ev.bind (ev_set (Nat.lt_of_lt_of_le ht (p12 hg.le))) ?_
        refine Ev.bind (ev_soak hg.le hg.lt ht) ?_
        refine Ev.bind (ev_list hcl') ?_
        refine Ev.bind (ev_ints (by rw [natsI_length]; have := card_lt64 hcl'; show card _ < _; omega)) ?_
        refine Ev.congr (fun k => by rw [if_pos (decide_eq_true rfl), if_pos rfl]) ?_
        exact soaks_j2 hg.le hcl _ _ rfl rfl
    · have e1 : soakX (n : Int) l (natsI (bitsOf t)) r = ([], 0, 2) := by unfold soakX; rw [hb]; exact if_neg hc
      have e2 : shelterX (n : Int) l (natsI (bitsOf t)) r = ([], 2) := by unfold shelterX; rw [hb]; exact if_neg hc
      rw [decide_eq_false hc]
      exact bad _ e1 _ e2
  · refine Ev.bind hv ?_
    have e1 : soakX a0 l s r = ([], 0, 2) := by unfold soakX; rw [hb]
    have e2 : shelterX a0 l s r = ([], 2) := by unfold shelterX; rw [hb]
    refine Ev.congr (fun k => if_neg (by simp)) ?_
    exact bad _ e1 _ e2
theorem soaks_pure (a0 : Int) (ha : inI a0) (l : List S48) (_ : fitL l) (s : List Int) (_ : fitL s) : ∃ k, numnahlaw06_WettingSoaks.f k a0 l s = some true := by
  have hl : (l.take 80).length ≤ 80 := by rw [List.length_take]; omega
  have hs : (s.take 13).length ≤ 13 := by rw [List.length_take]; omega
  refine Ev.rounds ?_
  simp only [numnahlaw06_WettingSoaks.f, pairs_f, list_f, Option.bind_some]
  generalize l.take 80 = l at hl ⊢
  generalize s.take 13 = s at hs ⊢
  by_cases h : (s.length : Int) > 0
  · refine Ev.congr (f := fun k => numnahlaw06_WettingSoaks.j0 k a0 l (rd s 0) (s.drop 1)) (fun k => ?_) (soaks_j a0 ha l hl _ _ (by rw [List.length_drop]; omega))
    rw [if_pos h]
    first | (rw [if_pos (by omega), if_pos (by omega)]; rfl) | rfl
  · refine Ev.congr (f := fun k => numnahlaw06_WettingSoaks.j0 k a0 l 1 s) (fun k => if_neg h) (soaks_j a0 ha l hl _ _ hs)
end Go.Proofs.YtpbeaaihdmfnlaaDoor.P
