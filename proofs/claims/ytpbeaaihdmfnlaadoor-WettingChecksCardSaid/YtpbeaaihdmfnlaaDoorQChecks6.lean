/- Several texts, joined. -/
import Derived.Test.YtpbeaaihdmfnlaaDoorQChecks5

/- ### LChecks -/
namespace Go.Proofs.YtpbeaaihdmfnlaaDoor.P
open Go Go.RowKit Go.Proofs.YtpbeaaihdmfnlaaDoor.M Go.Proofs.YtpbeaaihdmfnlaaDoor.H Go.Proofs.YtpbeaaihdmfnlaaDoor.G
open Go.Proofs.YtpbeaaihdmfnlaaDoorW.PrintWords Go.Proofs.YtpbeaaihdmfnlaaDoorW.PrintMore
theorem checks_j (a0 : Int) (ha : inI a0) (l c : List S48) (s : List Int) (hl : l.length ≤ 80) (hc : c.length ≤ 80) (hs : s.length ≤ 1000) : Ev (fun k => numnahlaw06_WettingChecks.j1 k a0 l c s) true := by
  have hf : wetting_Check.f a0 l s c = some (checkX a0 l s c) := by
    unfold wetting_Check.f
    rw [if_pos ⟨ha, fit_small (by omega), fit_small (by omega), fit_small (by omega)⟩]
  have step : ∀ k, numnahlaw06_WettingChecks.j1 (k + 1) a0 l c s = (numnahlaw06_valid.f k a0 l s).bind fun t449 => (if t449 = true then ((numnahref06_Near.f a0 l).bind fun t451 => ((numnahref06_Set.f k s).bind fun t454 => ((numnahref06_Chronicle.f k t451 t454 c).bind fun bt455 => (if bt455.2 = true then (if checkX a0 l s c = 0 then ((numnahlaw06_awake.f).bind fun t457 => (some t457)) else (some false)) else (if checkX a0 l s c = 10 then ((numnahlaw06_awake.f).bind fun t458 => (some t458)) else (some false)))))) else (if checkX a0 l s c = 2 then ((numnahlaw06_awake.f).bind fun t450 => (some t450)) else (some false))) := by
    intro k
    simp only [numnahlaw06_WettingChecks.j1]
    rw [hf, Option.bind_some]
  refine Ev.step step ?_
  rcases valid_cases a0 (l := l) (s := s) (by omega) (by omega) with ⟨n, t, rfl, hg, ht, rfl, hb, hv⟩ | ⟨hb, hv⟩
  · refine Ev.bind (f := fun k t449 => (if t449 = true then ((numnahref06_Near.f (n : Int) l).bind fun t451 => ((numnahref06_Set.f k (natsI (bitsOf t))).bind fun t454 => ((numnahref06_Chronicle.f k t451 t454 c).bind fun bt455 => (if bt455.2 = true then (if checkX (n : Int) l (natsI (bitsOf t)) c = 0 then ((numnahlaw06_awake.f).bind fun t457 => (some t457)) else (some false)) else (if checkX (n : Int) l (natsI (bitsOf t)) c = 10 then ((numnahlaw06_awake.f).bind fun t458 => (some t458)) else (some false)))))) else (if checkX (n : Int) l (natsI (bitsOf t)) c = 2 then ((numnahlaw06_awake.f).bind fun t450 => (some t450)) else (some false)))) hv ?_
    simp only [if_true, near_ref hg (fit_small (by omega)), Option.bind_some]
    refine Ev.bind (f := fun k t454 => ((numnahref06_Chronicle.f k (R (nearOf l) n) t454 c).bind fun bt455 => (if bt455.2 = true then (if checkX (n : Int) l (natsI (bitsOf t)) c = 0 then ((numnahlaw06_awake.f).bind fun t457 => (some t457)) else (some false)) else (if checkX (n : Int) l (natsI (bitsOf t)) c = 10 then ((numnahlaw06_awake.f).bind fun t458 => (some t458)) else (some false))))) (ev_set (Nat.lt_of_lt_of_le ht (p12 hg.le))) ?_
    refine Ev.bind (f := fun _ bt455 => (if bt455.2 = true then (if checkX (n : Int) l (natsI (bitsOf t)) c = 0 then ((numnahlaw06_awake.f).bind fun t457 => (some t457)) else (some false)) else (if checkX (n : Int) l (natsI (bitsOf t)) c = 10 then ((numnahlaw06_awake.f).bind fun t458 => (some t458)) else (some false)))) (ev_chron (ch := c) hg.le hg.lt (by omega) ht) ?_
    have e : checkX (n : Int) l (natsI (bitsOf t)) c = if checkL n (nearOf l) t c = true then 0 else 10 := by unfold checkX; rw [hb]
    rw [e]
    by_cases hck : checkL n (nearOf l) t c = true
    · simp only [hck, if_true]
      exact ev_awake
    · simp only [hck, if_false]
      exact ev_awake
  · refine Ev.bind (f := fun k t449 => (if t449 = true then ((numnahref06_Near.f a0 l).bind fun t451 => ((numnahref06_Set.f k s).bind fun t454 => ((numnahref06_Chronicle.f k t451 t454 c).bind fun bt455 => (if bt455.2 = true then (if checkX a0 l s c = 0 then ((numnahlaw06_awake.f).bind fun t457 => (some t457)) else (some false)) else (if checkX a0 l s c = 10 then ((numnahlaw06_awake.f).bind fun t458 => (some t458)) else (some false)))))) else (if checkX a0 l s c = 2 then ((numnahlaw06_awake.f).bind fun t450 => (some t450)) else (some false)))) hv ?_
    have e : checkX a0 l s c = 2 := by unfold checkX; rw [hb]
    rw [e]
    exact ev_awake
theorem checks_l (a0 : Int) (ha : inI a0) (l c x y : List S48) (hl : l.length ≤ 80) (hc : c.length ≤ 80) (hy : y.length < 9223372036854775808) : ∀ (d i : Nat) (s : List Int), i + d = 14 → s.length = i → Ev (fun k => numnahlaw06_WettingChecks.l0 k a0 l c s (i : Int) x y) true := by
  intro d
  induction d with
  | zero =>
    intro i s hi hs
    refine Ev.step (fun k => ?_) (checks_j a0 ha l c s hl hc (by omega))
    simp only [numnahlaw06_WettingChecks.l0]
    by_cases h : (i : Int) < (y.length : Int)
    · rw [if_pos h, if_neg (by omega)]
    · rw [if_neg h]
  | succ d ih =>
    intro i s hi hs
    by_cases h : (i : Int) < (y.length : Int)
    · by_cases h2 : i ≤ 12
      · refine Ev.step (fun k => ?_) (ih (i + 1) (s ++ [(rd_T48 y (i : Int)).f0]) (by omega) (by simp [hs]))
        simp only [numnahlaw06_WettingChecks.l0]
        rw [if_pos h, if_pos (by omega), if_pos (by omega), if_pos (by omega), wrap_succ (by omega)]
      · refine Ev.step (fun k => ?_) (checks_j a0 ha l c s hl hc (by omega))
        simp only [numnahlaw06_WettingChecks.l0]
        rw [if_pos h, if_neg (by omega)]
    · refine Ev.step (fun k => ?_) (checks_j a0 ha l c s hl hc (by omega))
      simp only [numnahlaw06_WettingChecks.l0]
      rw [if_neg h]
theorem checks_pure (a0 : Int) (ha : inI a0) (l : List S48) (_ : fitL l) (x y : List S48) (hy : fitL y) : ∃ k, numnahlaw06_WettingChecks.f k a0 l x y = some true := by
  refine Ev.rounds (Ev.congr (fun k => ?_) (checks_l a0 ha (l.take 80) (x.take 80) x y (by rw [List.length_take]; omega) (by rw [List.length_take]; omega) (by unfold fitL at hy; omega) 14 0 [] (by omega) rfl))
  unfold numnahlaw06_WettingChecks.f
  rw [pairs_f, pairs_f, Option.bind_some, Option.bind_some]
  rfl
end Go.Proofs.YtpbeaaihdmfnlaaDoor.P
