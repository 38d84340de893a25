/- Several texts, joined. -/
import Derived.Test.YtpbeaaihdmfnlaaDoorQB5

/- ### Pl -/
namespace Go.Proofs.YtpbeaaihdmfnlaaDoor.P
open Go Go.RowKit Go.Proofs.YtpbeaaihdmfnlaaDoor.M Go.Proofs.YtpbeaaihdmfnlaaDoor.H Go.Proofs.YtpbeaaihdmfnlaaDoor.G
open Go.Proofs.YtpbeaaihdmfnlaaDoorW.PrintWords Go.Proofs.YtpbeaaihdmfnlaaDoorW.PrintMore
theorem ev_soak_l {near : Nat → Nat} {n : Nat} {r : Int} (hn : n ≤ 12) (hr : ∀ v, near v < 2 ^ n) : ∀ (fuel s c k : Nat) (ρ : Nat → Int), s < 2 ^ n → 2 ^ n ≤ fuel + s → c + fuel ≤ 10000 →
    Ev (fun m => numnahref06_Soak.l0 m (R near n) (s : Int) r (c : Int)) (((closeM (soakedM n near r) fuel s k ρ).1 : Int), ((c + countM (soakedM n near r) fuel s : Nat) : Int)) := by
  have g := good_soaked (r := r) (near := near) (show n ≤ 64 by omega)
  intro fuel
  induction fuel with
  | zero => intro s c k ρ hs hf; omega
  | succ fuel ih =>
    intro s c k ρ hs hf hk
    have hs' : s < 4096 := Nat.lt_of_lt_of_le hs (p12 hn)
    have hm' : soakedM n near r s < 4096 := Nat.lt_of_lt_of_le (g.lt s) (p12 hn)
    rw [closeM, countM]
    refine Ev.step (f := fun m => (numnahref06_soaked.f m (R near n) (s : Int) r).bind fun t518 => (if t518 = 0 then (some ((s : Int), (c : Int))) else ((numnahref06_soaked.f m (R near n) (s : Int) r).bind fun t519 => (numnahref06_Soak.l0 m (R near n) (Go.bits .or .i64 (s : Int) t519) r (wrap64 ((c : Int) + 1)))))) (fun m => by simp only [numnahref06_Soak.l0]) ?_
    refine Ev.bind (ev_soaked hn hr hs) ?_
    by_cases h0 : soakedM n near r s = 0
    · rw [if_pos h0, if_pos h0]
      exact Ev.congr (fun m => if_pos (by omega)) (Ev.now _)
    · rw [if_neg h0, if_neg h0]
      refine Ev.congr (fun m => if_neg (by omega)) ?_
      refine Ev.bind (ev_soaked hn hr hs) ?_
      have hmore := g.more h0
      have := ih (s ||| soakedM n near r s) (c + 1) (k + 1) (markR ρ (k : Int) (bitsOf (soakedM n near r s))) (g.or_lt hs) (by omega) (by omega)
      rw [show c + 1 + countM (soakedM n near r) fuel (s ||| soakedM n near r s) = c + (1 + countM (soakedM n near r) fuel (s ||| soakedM n near r s)) by omega] at this
      rw [orI hs' hm', wrap_succ (by omega)]
      exact this
/-- Soak: the closure, and the number of rounds. -/
theorem ev_soak {near : Nat → Nat} {n s : Nat} {r : Int} (hn : n ≤ 12) (hr : ∀ v, near v < 2 ^ n) (hs : s < 2 ^ n) : Ev (fun m => numnahref06_Soak.f m (R near n) (s : Int) r) ((cl (soakedM n near r) n s : Int), (countM (soakedM n near r) (2 ^ n) s : Int)) := by
  have h12 := p12 hn
  have := ev_soak_l (r := r) hn hr (2 ^ n) s 0 1 (markR (fun _ => -1) 0 (bitsOf s)) hs (by omega) (by omega)
  rw [Nat.zero_add] at this
  exact this
theorem ev_soaking {near : Nat → Nat} {n s : Nat} {r : Int} (hn : n ≤ 12) (hr : ∀ v, near v < 2 ^ n) (hs : s < 2 ^ n) : Ev (fun m => numnahref06_Soaking.f m (R near n) (s : Int) r) (goodB (soakedM n near r) n s) := by
  refine Ev.congr (f := fun m => (numnahref06_Soak.f m (R near n) (s : Int) r).bind fun bt => (numnahref06_All.f (R near n)).bind fun t => some (bt.1 == t)) (fun m => rfl) ?_
  refine Ev.bind (ev_soak hn hr hs) ?_
  rw [all_ref hn]
  have e : ((cl (soakedM n near r) n s : Int) == ((full n : Nat) : Int)) = goodB (soakedM n near r) n s := by
    unfold goodB
    rw [Bool.eq_iff_iff]
    simp only [beq_iff_eq]
    show (((closeR (soakedM n near r) n s).1 : Nat) : Int) = _ ↔ _
    omega
  simp only [Option.bind_some, e]
  exact Ev.now _
theorem ev_fewest_l {near : Nat → Nat} {n : Nat} {r : Int} (hn : n ≤ 12) (hr : ∀ v, near v < 2 ^ n) : ∀ (d i best : Nat), i + d = 2 ^ n → best < 2 ^ n →
    Ev (fun k => numnahref06_Fewest.l0 k (R near n) r (best : Int) (i : Int)) ((bestL (goodB (soakedM n near r) n) best (List.range' i d) : Nat) : Int) := by
  have h12 := p12 hn
  intro d
  induction d with
  | zero =>
    intro i best hi _
    refine Ev.step (f := fun _ => some (best : Int)) (fun k => ?_) (Ev.now _)
    simp only [numnahref06_Fewest.l0]
    rw [shl_pow hn, if_neg (by omega)]
  | succ d ih =>
    intro i best hi hb
    have e : bestL (goodB (soakedM n near r) n) best (List.range' i (d + 1)) = bestL (goodB (soakedM n near r) n) (if beforeB i best = true ∧ goodB (soakedM n near r) n i = true then i else best) (List.range' (i + 1) d) := by rw [List.range'_succ]; rfl
    rw [e]
    refine Ev.step (f := fun k => (numnahref06_Before.f k (i : Int) (best : Int)).bind fun t191 => (if t191 = true then ((numnahref06_Soaking.f k (R near n) (i : Int) r).bind fun t192 => (if t192 = true then (numnahref06_Fewest.l0 k (R near n) r (i : Int) ((i + 1 : Nat) : Int)) else (numnahref06_Fewest.l0 k (R near n) r (best : Int) ((i + 1 : Nat) : Int)))) else (numnahref06_Fewest.l0 k (R near n) r (best : Int) ((i + 1 : Nat) : Int)))) (fun k => ?_) ?_
    · simp only [numnahref06_Fewest.l0]
      rw [shl_pow hn, if_pos (by omega), wrap_succ (by omega)]
    · refine Ev.bind (ev_before (by omega) (by omega)) ?_
      cases hbf : beforeB i best with
      | false =>
        rw [if_neg (by simp)]
        exact Ev.congr (fun k => if_neg (by simp)) (ih (i + 1) best (by omega) hb)
      | true =>
        refine Ev.congr (fun k => if_pos rfl) ?_
        refine Ev.bind (ev_soaking hn hr (by omega)) ?_
        cases hg : goodB (soakedM n near r) n i with
        | false =>
          rw [if_neg (by simp)]
          exact Ev.congr (fun k => if_neg (by simp)) (ih (i + 1) best (by omega) hb)
        | true =>
          rw [if_pos ⟨rfl, rfl⟩]
          exact Ev.congr (fun k => if_pos rfl) (ih (i + 1) i (by omega) (by omega))
theorem ev_fewest {near : Nat → Nat} {n : Nat} {r : Int} (hn : n ≤ 12) (hr : ∀ v, near v < 2 ^ n) : Ev (fun k => numnahref06_Fewest.f k (R near n) r) ((firstM (soakedM n near r) n : Nat) : Int) := by
  have g := good_soaked (r := r) (near := near) (show n ≤ 64 by omega)
  have e : bestL (goodB (soakedM n near r) n) (full n) (List.range (2 ^ n)) = firstM (soakedM n near r) n := (best_first hn (full_good g)).unique (first_first hn g)
  rw [← e, List.range_eq_range']
  refine Ev.congr (f := fun k => numnahref06_Fewest.l0 k (R near n) r ((full n : Nat) : Int) ((0 : Nat) : Int)) (fun k => ?_) (ev_fewest_l hn hr (2 ^ n) 0 (full n) (by omega) (full_lt n n (Nat.le_refl n)))
  unfold numnahref06_Fewest.f
  rw [all_ref hn]
  rfl
end Go.Proofs.YtpbeaaihdmfnlaaDoor.P

/- ### Pn -/
namespace Go.Proofs.YtpbeaaihdmfnlaaDoor.P
open Go Go.RowKit Go.Proofs.YtpbeaaihdmfnlaaDoor.M Go.Proofs.YtpbeaaihdmfnlaaDoor.H Go.Proofs.YtpbeaaihdmfnlaaDoor.G
open Go.Proofs.YtpbeaaihdmfnlaaDoorW.PrintWords Go.Proofs.YtpbeaaihdmfnlaaDoorW.PrintMore
structure Tamed (n : Nat) (l : List S48) : Prop where
  g : GOk n l (nearOf l)
  gr : graphM (n : Int) l = some ⟨n, nearOf l⟩
  len : l.length ≤ 66
theorem Tamed.fit {n : Nat} {l : List S48} (h : Tamed n l) : fitL l := fit_small (by have := h.len; omega)
theorem Tamed.inI {n : Nat} {l : List S48} (h : Tamed n l) : inI (n : Int) := ⟨by omega, by have := h.g.le; omega⟩
theorem tamed_of {n : Nat} {l : List S48} (h1 : 1 ≤ n) (h2 : n ≤ 12) (h : edgesB (n : Int) [] l = true) : Tamed n l := by
  obtain ⟨hgr, hg⟩ := graph_some h1 h2 h
  have hl := edgesB_length h2 h
  have : ∀ n, n ≤ 12 → n * (n - 1) / 2 ≤ 66 := by decide
  have := this n h2
  exact ⟨hg, hgr, by omega⟩
theorem tame_ex (a0 : Int) {l : List S48} (hl : fitL l) : ∃ (n : Nat) (out : List S48), Tamed n out ∧ Ev (fun k => numnahlaw06_tame.f k a0 l) ((n : Int), out) := by
  obtain ⟨n, out, h1, h2, h3, hv⟩ := ev_tame a0 (l := l) (by unfold fitL at hl; omega)
  exact ⟨n, out, tamed_of h1 h2 h3, hv⟩
section
variable {n s : Nat} {l : List S48} (h : Tamed n l) (hs : s < 2 ^ n)
include h
theorem Tamed.small {t : Nat} (ht : t < 2 ^ n) : t < 4096 := Nat.lt_of_lt_of_le ht (p12 h.g.le)
theorem Tamed.fitS {t : Nat} (ht : t < 2 ^ n) : fitL (natsI (bitsOf t)) := fit_small (by rw [natsI_length]; have := card_lt64 (h.small ht); show card _ ≤ _; omega)
theorem Tamed.within {t : Nat} (ht : t < 2 ^ n) : Ev (fun k => numnahlaw06_within.f k (n : Int) (natsI (bitsOf t))) true := by
  have hw := ev_within (n := n) (l := natsI (bitsOf t)) (by rw [natsI_length]; have := card_lt64 (h.small ht); show card _ < _; omega)
  rw [setM_bits (by have := h.g.le; omega) ht] at hw
  exact hw
theorem Tamed.set {t : Nat} (ht : t < 2 ^ n) : Ev (fun k => numnahref06_Set.f k (natsI (bitsOf t))) (t : Int) := ev_set (h.small ht)
theorem Tamed.near : numnahref06_Near.f (n : Int) l = some (R (nearOf l) n) := near_ref h.g h.fit
include hs
theorem Tamed.both : bothM (n : Int) l (natsI (bitsOf s)) = some (⟨n, nearOf l⟩, s) := by
  unfold bothM; rw [h.gr, Option.bind_some]; show (setM n _).map _ = _; rw [setM_bits (by have := h.g.le; omega) hs]; rfl
theorem Tamed.close : wetting_Close.f (n : Int) l (natsI (bitsOf s)) = some (natsI (bitsOf (cl (forcedM (nearOf l)) n s)), max 0 (maxL (L n (closeR (forcedM (nearOf l)) n s).2)), 0) := by
  unfold wetting_Close.f; rw [if_pos ⟨h.inI, h.fit, h.fitS hs⟩]; unfold closeX; rw [h.both hs]; rfl
theorem Tamed.rounds : wetting_Rounds.f (n : Int) l (natsI (bitsOf s)) = some (L n (closeR (forcedM (nearOf l)) n s).2, 0) := by
  unfold wetting_Rounds.f; rw [if_pos ⟨h.inI, h.fit, h.fitS hs⟩]; unfold roundsX; rw [h.both hs]; rfl
theorem Tamed.isFort : wetting_IsFort.f (n : Int) l (natsI (bitsOf s)) = some (fortM n (nearOf l) s, 0) := by
  unfold wetting_IsFort.f; rw [if_pos ⟨h.inI, h.fit, h.fitS hs⟩]; unfold isFortX; rw [h.both hs]
theorem Tamed.fort : wetting_Fort.f (n : Int) l (natsI (bitsOf s)) = some (natsI (if cl (forcedM (nearOf l)) n s = full n then [] else bitsOf (andNot (full n) (cl (forcedM (nearOf l)) n s))), if cl (forcedM (nearOf l)) n s = full n then 6 else 0) := by
  unfold wetting_Fort.f; rw [if_pos ⟨h.inI, h.fit, h.fitS hs⟩]; unfold fortX; rw [h.both hs]; rfl
theorem Tamed.soak {r : Int} (hr : 1 ≤ r ∧ r ≤ 6) : wetting_Soak.f (n : Int) l (natsI (bitsOf s)) r = some (natsI (bitsOf (cl (soakedM n (nearOf l) r) n s)), max 0 (maxL (L n (closeR (soakedM n (nearOf l) r) n s).2)), 0) := by
  unfold wetting_Soak.f; rw [if_pos ⟨h.inI, h.fit, h.fitS hs⟩]; unfold soakX; rw [h.both hs]; exact congrArg some (if_pos hr)
theorem Tamed.shelter {r : Int} (hr : 1 ≤ r ∧ r ≤ 6) : wetting_Shelter.f (n : Int) l (natsI (bitsOf s)) r = some (natsI (if cl (soakedM n (nearOf l) r) n s = full n then [] else bitsOf (andNot (full n) (cl (soakedM n (nearOf l) r) n s))), if cl (soakedM n (nearOf l) r) n s = full n then 6 else 0) := by
  unfold wetting_Shelter.f; rw [if_pos ⟨h.inI, h.fit, h.fitS hs⟩]; unfold shelterX; rw [h.both hs]; exact congrArg some (if_pos hr)
omit hs
theorem Tamed.least : wetting_Least.f (n : Int) l = some (natsI (bitsOf (firstM (forcedM (nearOf l)) n)), 0) := by
  unfold wetting_Least.f; rw [if_pos ⟨h.inI, h.fit⟩]; unfold leastX; rw [h.gr]
theorem Tamed.fewest {r : Int} (hr : 1 ≤ r ∧ r ≤ 6) : wetting_Fewest.f (n : Int) l r = some (natsI (bitsOf (firstM (soakedM n (nearOf l) r) n)), 0) := by
  unfold wetting_Fewest.f; rw [if_pos ⟨h.inI, h.fit⟩]; unfold fewestX; rw [h.gr]; exact congrArg some (if_pos hr)
theorem Tamed.forts : wetting_Forts.f (n : Int) l = some ((fortsM n (nearOf l)).map (fun x => natsI (bitsOf x)), 0) := by
  unfold wetting_Forts.f; rw [if_pos ⟨h.inI, h.fit⟩]; unfold fortsX; rw [h.gr]
end
end Go.Proofs.YtpbeaaihdmfnlaaDoor.P

/- ### Gs -/
namespace Go.Proofs.YtpbeaaihdmfnlaaDoor.G
open Go.RowKit Go.Proofs.YtpbeaaihdmfnlaaDoor.H Go.Proofs.YtpbeaaihdmfnlaaDoorW.PrintWords Go.Proofs.YtpbeaaihdmfnlaaDoorW.PrintLast Go.Proofs.YtpbeaaihdmfnlaaDoorW.PrintMore
attribute [local go_sem] max2_int min2_int max_two min_two max_three min_three max_four min_four   -- for this text's walks alone
set_option linter.unusedVariables false
set_option linter.unusedSimpArgs false
def numnahref06_Shelter.l0 : Nat → List Int → Int → Int → Int → Option (Bool)
  | 0, _, _, _, _ => none
  | k + 1, x0, x1, x2, x7 => if x7 < (x0.length : Int) then (if 0 ≤ x7 then (if (Int.tmod (shr .i64 x1 x7) 2) = 1 then ((numnahref06_Count.f k (Go.bits .andNot .i64 (rd x0 x7) x1)).bind fun t713 => (if t713 ≥ x2 then (some false) else (numnahref06_Shelter.l0 k x0 x1 x2 (wrap64 (x7 + 1))))) else (numnahref06_Shelter.l0 k x0 x1 x2 (wrap64 (x7 + 1)))) else (none)) else (some (decide (x1 > 0)))
def numnahref06_Shelter.f (k : Nat) (l0 : List Int) (a1 : Int) (a2 : Int) : Option (Bool) := numnahref06_Shelter.l0 k l0 a1 a2 0
theorem numnahref06_Shelter.mono_l : ∀ k, (∀ y0 y1 y2 y3, LeO (numnahref06_Shelter.l0 k y0 y1 y2 y3) (numnahref06_Shelter.l0 (k + 1) y0 y1 y2 y3))
  | 0 => fun _ _ _ _ r h => by simp [numnahref06_Shelter.l0] at h
  | k + 1 => by
    have ih0 := numnahref06_Shelter.mono_l k
    · intro y0 y1 y2 y3
      unfold numnahref06_Shelter.l0
      repeat' first
      | (with_reducible exact ih0 _ _ _ _)
      | (with_reducible exact numnahref06_Count.mono _ _)
      | (with_reducible exact LeO.refl _)
      | (with_reducible exact LeO.none _)
      | (with_reducible refine LeO.ite ?_ ?_)
      | (with_reducible refine LeO.bind ?_ (fun _ => ?_))
      | exact ih0 _ _ _ _
      | exact numnahref06_Count.mono _ _
      | exact LeO.none _
      | refine LeO.ite ?_ ?_
      | refine LeO.bind ?_ (fun _ => ?_)
theorem numnahref06_Shelter.mono : ∀ a0 a1 a2 k, LeO (numnahref06_Shelter.f k a0 a1 a2) (numnahref06_Shelter.f (k + 1) a0 a1 a2) := by
  intro a0 a1 a2 k
  have ih0 := numnahref06_Shelter.mono_l k
  unfold numnahref06_Shelter.f
  repeat' first
      | (with_reducible exact ih0 _ _ _ _)
      | (with_reducible exact numnahref06_Count.mono _ _)
      | (with_reducible exact LeO.refl _)
      | (with_reducible exact LeO.none _)
      | (with_reducible refine LeO.ite ?_ ?_)
      | (with_reducible refine LeO.bind ?_ (fun _ => ?_))
      | exact ih0 _ _ _ _
      | exact numnahref06_Count.mono _ _
      | exact LeO.none _
      | refine LeO.ite ?_ ?_
      | refine LeO.bind ?_ (fun _ => ?_)
set_option maxHeartbeats 8000000 in
set_option maxRecDepth 100000 in
theorem numnahref06_Shelter.calls (k : Nat) (A0 : Option Addr) (c0 : Nat) (l0 : List Int) (a1 : Int) (a2 : Int) (r : Bool) (w : World) (hr0 : Kd.C (Kd.int .i64) w A0 l0.length l0) (hc0 : l0.length ≤ c0) (h : numnahref06_Shelter.f k l0 a1 a2 = some r) :
    Calls Tryd.prog 51 #[.slice A0 l0.length c0, .int .i64 a1, .int .i64 a2] w fun e w' => e = .returned (.bool r) ∧ Below w.heap.size w w' := by
  have HR0 := Aside0.mk hr0
  have HC0 := Aside0.mk hc0
  clear hr0 hc0
  have HB := Aside0.mk (Below.refl w.heap.size w)
  have H : (numnahref06_Shelter.l0 k l0 a1 a2 0) = some r := h
  clear h
  have H' := Aside0.mk H
  clear H
  go_enter Tryd.func51, Tryd.ntmps51
  go_wp2
  go_loopg [7] k (fun kq v7 w' => ∃ (x7_1 : Int), v7 = .int .i64 x7_1 ∧ Aside0 (numnahref06_Shelter.l0 kq l0 a1 a2 x7_1 = some r) ∧ Aside0 (kq ≤ k) ∧ Aside0 (Below w.heap.size w w'))
  case atStart => exact ⟨(0), (by first | rfl | (simp; done) | (simp [*]; done)), H', ⟨Nat.le_refl _⟩, ⟨by repeat (first | (with_reducible first | exact HB.out | apply below_alloc | apply pw_below_drewN | apply below_drew1) | exact HB.out)⟩⟩
  case round =>
    clear H'
    try clear p2
    obtain ⟨x7_1, rfl, HA, HK1, HB⟩ := hrel
    cases gk with
    | zero => exact absurd HA.out (by simp [numnahref06_Shelter.l0])
    | succ k1 =>
      have H := HA.out
      clear HA
      simp only [numnahref06_Shelter.l0] at H
      by_cases c4 : x7_1 < (l0.length : Int)
      · rw [if_pos c4] at H
        have c4b0 : decide (x7_1 < (l0.length : Int)) = true := decide_eq_true c4
        clear c4
        by_cases c5 : 0 ≤ x7_1
        · rw [if_pos c5] at H
          have c5b0 := eq_true c5
          have c5b1 : decide (0 ≤ x7_1) = true := decide_eq_true c5
          clear c5
          obtain ⟨ji6, hji6⟩ : ∃ j_ : Int, (shr .i64 a1 x7_1) = j_ := ⟨_, rfl⟩
          replace H : (if (Int.tmod (ji6) 2) = 1 then ((numnahref06_Count.f k1 (Go.bits .andNot .i64 (rd l0 x7_1) a1)).bind fun t713 => (if t713 ≥ a2 then (some false) else (numnahref06_Shelter.l0 k1 l0 a1 a2 (wrap64 (x7_1 + 1))))) else (numnahref06_Shelter.l0 k1 l0 a1 a2 (wrap64 (x7_1 + 1)))) = some r := by first | (rw [hji6] at H; exact H) | (simp only [hji6] at H ⊢; exact H)
          have hji6_ : (a1 / 2 ^ min x7_1.toNat 64) = ji6 := hji6
          have hji6z : x7_1 ≤ 64 → (a1 / 2 ^ x7_1.toNat) = ji6 := shr_small hji6
          by_cases c7 : (Int.tmod (ji6) 2) = 1
          · rw [if_pos c7] at H
            have c7b0 : ((Int.tmod (ji6) 2) == 1) = true := beq_iff_eq.mpr c7
            have c7b1 : ((Int.tmod (ji6) 2) != 1) = false := bne_eq_false_iff_eq.mpr c7
            clear c7
            replace H := Option.bind_eq_some_iff.mp H
            obtain ⟨t713, A80, H⟩ := H
            replace H : (if t713 ≥ a2 then (some false) else (numnahref06_Shelter.l0 k1 l0 a1 a2 (wrap64 (x7_1 + 1)))) = some r := H
            have A8 := Aside0.mk A80
            clear A80
            by_cases c9 : t713 ≥ a2
            · rw [if_pos c9] at H
              have c9b0 : decide (a2 ≤ t713) = true := decide_eq_true c9
              clear c9
              obtain rfl := Option.some.inj H
              have p712 : 0 ≤ (x7_1 : Int) := of_decide_eq_true (by first | (with_reducible assumption) | assumption)
              have q712 : x7_1 < (l0.length : Int) := of_decide_eq_true (by first | (with_reducible assumption) | assumption)
              obtain ⟨ad712, e712, hx712_0⟩ := Kd.at_int HR0.out x7_1 p712 q712
              cases e712
              replace hx712_0 := (HB.out.cell (World.block_lt_of_cell? w _ hx712_0)).trans hx712_0
              replace p712 := eq_true p712
              replace q712 := eq_true q712
              go_wp2_with (first | (go_at_call 41; (with_reducible refine (numnahref06_Count.calls k1 (Go.bits .andNot .i64 (rd l0 x7_1) a1) t713 _ A8.out).mono ?_); rintro e w10 ⟨rfl, hb⟩; have n0_ := Aside0.mk (below_step (by repeat (first | (with_reducible first | exact HB.out | apply below_alloc | apply pw_below_drewN | apply below_drew1) | exact HB.out)) hb); clear HB; have HB := n0_; clear n0_; (try clear hb); (try clear hb2); (try clear hk); (try clear hi)))
              go_ret
              exact ⟨by first | rfl | (simp [errW_none, errW_some] <;> rfl) | (simp only [← hji6]; first | rfl | (simp [errW_none, errW_some] <;> rfl)) | (simp [*, errW_none, errW_some] <;> rfl), by repeat (first | (with_reducible first | exact HB.out | apply below_alloc | apply pw_below_drewN | apply below_drew1) | exact HB.out)⟩
            · rw [if_neg c9] at H
              have c9b0 : decide (a2 ≤ t713) = false := decide_eq_false c9
              clear c9
              have H' := Aside0.mk H
              clear H
              have p712 : 0 ≤ (x7_1 : Int) := of_decide_eq_true (by first | (with_reducible assumption) | assumption)
              have q712 : x7_1 < (l0.length : Int) := of_decide_eq_true (by first | (with_reducible assumption) | assumption)
              obtain ⟨ad712, e712, hx712_0⟩ := Kd.at_int HR0.out x7_1 p712 q712
              cases e712
              replace hx712_0 := (HB.out.cell (World.block_lt_of_cell? w _ hx712_0)).trans hx712_0
              replace p712 := eq_true p712
              replace q712 := eq_true q712
              go_wp2_with (first | (go_at_call 41; (with_reducible refine (numnahref06_Count.calls k1 (Go.bits .andNot .i64 (rd l0 x7_1) a1) t713 _ A8.out).mono ?_); rintro e w11 ⟨rfl, hb⟩; have n0_ := Aside0.mk (below_step (by repeat (first | (with_reducible first | exact HB.out | apply below_alloc | apply pw_below_drewN | apply below_drew1) | exact HB.out)) hb); clear HB; have HB := n0_; clear n0_; (try clear hb); (try clear hb2); (try clear hk); (try clear hi)))
              go_roundg k1
              case measure => have := HK1.out; omega
              case rel => exact ⟨(wrap64 (x7_1 + 1)), (by first | rfl | (simp; done) | (simp [*]; done)), H', ⟨by have := HK1.out; omega⟩, ⟨by repeat (first | (with_reducible first | exact HB.out | apply below_alloc | apply pw_below_drewN | apply below_drew1) | exact HB.out)⟩⟩
          · rw [if_neg c7] at H
            have c7b0 : ((Int.tmod (ji6) 2) == 1) = false := beq_eq_false_iff_ne.mpr c7
            have c7b1 : ((Int.tmod (ji6) 2) != 1) = true := bne_iff_ne.mpr c7
            have H' := Aside0.mk H
            clear H
            go_wp2
            go_roundg k1
            case measure => have := HK1.out; omega
            case rel => exact ⟨(wrap64 (x7_1 + 1)), (by first | rfl | (simp; done) | (simp [*]; done)), H', ⟨by have := HK1.out; omega⟩, ⟨by repeat (first | (with_reducible first | exact HB.out | apply below_alloc | apply pw_below_drewN | apply below_drew1) | exact HB.out)⟩⟩
        · rw [if_neg c5] at H
          exact absurd H (by simp)
      · rw [if_neg c4] at H
        have c4b0 : decide (x7_1 < (l0.length : Int)) = false := decide_eq_false c4
        clear c4
        obtain rfl := Option.some.inj H
        go_wp2
        go_ret
        exact ⟨by first | rfl | (simp [errW_none, errW_some] <;> rfl) | (simp [*, errW_none, errW_some] <;> rfl), by repeat (first | (with_reducible first | exact HB.out | apply below_alloc | apply pw_below_drewN | apply below_drew1) | exact HB.out)⟩
end Go.Proofs.YtpbeaaihdmfnlaaDoor.G

/- ### Po -/
namespace Go.Proofs.YtpbeaaihdmfnlaaDoor.P
open Go Go.RowKit Go.Proofs.YtpbeaaihdmfnlaaDoor.M Go.Proofs.YtpbeaaihdmfnlaaDoor.H Go.Proofs.YtpbeaaihdmfnlaaDoor.G
open Go.Proofs.YtpbeaaihdmfnlaaDoorW.PrintWords Go.Proofs.YtpbeaaihdmfnlaaDoorW.PrintMore
theorem and_mono {a b c : Nat} (h : Sub b c) : Sub (a &&& b) (a &&& c) := fun i hi => by
  rw [Nat.testBit_and, Bool.and_eq_true] at hi ⊢
  exact ⟨hi.1, h i hi.2⟩
/-- What a part of a closed set makes wet, lies in it. -/
theorem soaked_closed {n : Nat} {near : Nat → Nat} {r q : Int} {t c : Nat} (hn : n ≤ 64) (hq : r ≤ q) (h0 : soakedM n near r c = 0) (h : Sub t c) : Sub (soakedM n near q t) c := by
  intro i hi
  obtain ⟨h1, h2, h3⟩ := (testBit_soaked hn).1 hi
  cases hc : c.testBit i with
  | true => rfl
  | false =>
    have hm := card_mono (and_mono (a := near i) h)
    have : (soakedM n near r c).testBit i = true := (testBit_soaked hn).2 ⟨h1, hc, by omega⟩
    rw [h0, Nat.zero_testBit] at this; cases this
theorem soak_mono {n s t : Nat} {near : Nat → Nat} {r q : Int} (hn : n ≤ 64) (hq : r ≤ q) (ht : t < 2 ^ n) (h : Sub s t) : Sub (cl (soakedM n near q) n s) (cl (soakedM n near r) n t) :=
  cl_least (fun _ hu => soaked_closed hn hq (cl_closed (good_soaked hn) ht) hu) (h.trans cl_sub)
/-- The same of forcing. -/
theorem forced_closed {n : Nat} {near : Nat → Nat} {t c : Nat} (hn : n ≤ 12) (hr : ∀ v, near v < 2 ^ n) (ht : t < 2 ^ n) (hc : c < 2 ^ n) (h0 : forcedM near c = 0) (h : Sub t c) : Sub (forcedM near t) c := by
  intro i hi
  obtain ⟨v, h1, h2, h3⟩ := (testBit_forced (lt64 hn ht)).1 hi
  cases hci : c.testBit i with
  | true => rfl
  | false =>
    have hsub : Sub (andNot (near v) c) (andNot (near v) t) := fun j hj => by
      have := disj_andNot hj
      rw [testBit_andNot, this.1]
      cases htj : t.testBit j with
      | false => rfl
      | true => rw [h j htj] at this; cases this.2
    have hbit : (andNot (near v) c).testBit i = true := by rw [testBit_andNot, (disj_andNot h3).1, hci]; rfl
    have e := part_one (lt64 hn (andNot_lt (hr v))) hsub h2 (bit_ne_zero hbit)
    have : (forcedM near c).testBit i = true := (testBit_forced (lt64 hn hc)).2 ⟨v, h v h1, by rw [e]; exact h2, hbit⟩
    rw [h0, Nat.zero_testBit] at this; cases this
theorem close_mono {n s t : Nat} {near : Nat → Nat} (hn : n ≤ 12) (hr : ∀ v, near v < 2 ^ n) (hs : s < 2 ^ n) (ht : t < 2 ^ n) (h : Sub s t) : Sub (cl (forcedM near) n s) (cl (forcedM near) n t) := by
  have g := good_forced hr
  have hc := cl_lt g ht
  refine (cl_ind (f := forcedM near) (n := n) (p := fun u => u < 2 ^ n ∧ Sub u (cl (forcedM near) n t)) (fun u hu _ => ⟨g.or_lt hu.1, or_sub hu.2 (forced_closed hn hr hu.1 hc (cl_closed g ht) hu.2)⟩) ⟨hs, h.trans cl_sub⟩).2
/-- Shelter. -/
theorem ev_shelter_l {near : Nat → Nat} {n s : Nat} {r : Int} (hn : n ≤ 12) (hr : ∀ v, near v < 2 ^ n) (_ : s < 2 ^ n) : ∀ (d i : Nat), i + d = n →
    Ev (fun k => numnahref06_Shelter.l0 k (R near n) (s : Int) r (i : Int)) (((List.range' i d).all fun v => !s.testBit v || decide ((card (andNot (near v) s) : Int) < r)) && decide (0 < s)) := by
  intro d
  induction d with
  | zero =>
    intro i hi
    refine Ev.step (f := fun _ => some (decide (0 < s))) (fun k => ?_) (Ev.now _)
    simp only [numnahref06_Shelter.l0]
    rw [R_length, if_neg (by omega)]
    congr 1
    rw [Bool.eq_iff_iff, decide_eq_true_iff, decide_eq_true_iff]; omega
  | succ d ih =>
    intro i hi
    have hlt : i < n := by omega
    have hni : near i < 4096 := Nat.lt_of_lt_of_le (hr i) (p12 hn)
    have ha : andNot (near i) s < 4096 := andNot_lt (k := 12) hni
    rw [List.range'_succ, List.all_cons]
    cases hb : s.testBit i with
    | false =>
      rw [Bool.not_false, Bool.true_or, Bool.true_and]
      refine Ev.step (fun k => ?_) (ih (i + 1) (by omega))
      simp only [numnahref06_Shelter.l0]
      rw [R_length, if_pos (by omega), if_pos (by omega), tmod_bit (by omega), hb, if_neg (by simp), wrap_succ (by omega)]
    | true =>
      rw [Bool.not_true, Bool.false_or]
      refine Ev.step (f := fun k => (numnahref06_Count.f k ((andNot (near i) s : Nat) : Int)).bind fun t713 => (if t713 ≥ r then (some false) else (numnahref06_Shelter.l0 k (R near n) (s : Int) r ((i + 1 : Nat) : Int)))) (fun k => ?_) ?_
      · simp only [numnahref06_Shelter.l0]
        rw [R_length, if_pos (by omega), if_pos (by omega), tmod_bit (by omega), hb, if_pos (by simp), wrap_succ (by omega), rd_R hlt, andN hni]
      · refine Ev.bind (ev_count ha) ?_
        by_cases hc : (card (andNot (near i) s) : Int) < r
        · rw [decide_eq_true hc, Bool.true_and]
          exact Ev.congr (fun k => if_neg (by omega)) (ih (i + 1) (by omega))
        · rw [decide_eq_false hc, Bool.false_and, Bool.false_and]
          exact Ev.congr (fun k => if_pos (by omega)) (Ev.now _)
theorem ev_shelter {near : Nat → Nat} {n s : Nat} {r : Int} (hn : n ≤ 12) (hr : ∀ v, near v < 2 ^ n) (hs : s < 2 ^ n) (h0 : s ≠ 0) (h : ∀ v, v < n → s.testBit v = true → (card (andNot (near v) s) : Int) < r) : Ev (fun k => numnahref06_Shelter.f k (R near n) (s : Int) r) true := by
  have hev := ev_shelter_l (r := r) hn hr hs n 0 (by omega)
  have e : (((List.range' 0 n).all fun v => !s.testBit v || decide ((card (andNot (near v) s) : Int) < r)) && decide (0 < s)) = true := by
    rw [Bool.and_eq_true, decide_eq_true_iff, List.all_eq_true]
    refine ⟨fun v hv => ?_, by omega⟩
    rw [List.mem_range'] at hv
    obtain ⟨j, hj, rfl⟩ := hv
    cases hb : s.testBit (0 + 1 * j) with
    | false => rfl
    | true => rw [Bool.not_true, Bool.false_or, decide_eq_true_iff]; exact h _ (by omega) hb
  rw [e] at hev
  exact hev
end Go.Proofs.YtpbeaaihdmfnlaaDoor.P
