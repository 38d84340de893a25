/- Every total function of at most five variables: the method comes to an end, or to a state again. -/
import Derived.Test.YthpahlkhiknofaaJb
set_option linter.unusedSectionVars false
set_option linter.unusedSimpArgs false
namespace Go.Proofs.Ythpahlkhiknofaa.J
/-! ### prefixes -/
def stU (c : Nat) : Nat → Nat
  | 0 => 2 ^ 71 * encN (fun _ => 65536) 32 0 + 2 ^ 70
  | k + 1 => if c.testBit k = true then stU c k - (2 ^ (87 + 17 * k)) >>> 16 else stU c k
def stH1 (c : Nat) : Nat → Nat
  | 0 => 0
  | k + 1 => if c.testBit k = true then stH1 c k + 2 ^ (87 + 17 * k) + 2 ^ (87 + 17 * k) % 4294967291 else stH1 c k
def stH : Nat → Nat
  | 0 => 0
  | k + 1 => stH k + 2 ^ (87 + 17 * k)
def stB (k : Nat) : Nat := if k < 32 then 2 ^ (87 + 17 * k) else 0
theorem st_rep (f : Nat → Bool) (c : Nat) : ∀ k, k ≤ 32 → (∀ i, i < k → f i = c.testBit i) → Rep k f z0 0 (stU c k) ∧ HR k f (stH1 c k) (stH k)
  | 0, _, _ => by
    refine ⟨⟨⟨0, by omega, by omega, ?_⟩, fun q _ => by simp [z0], by omega⟩, ⟨⟨0, by omega, ?_⟩, ?_⟩⟩
    · have : dg 0 f z0 = fun _ => ((65536 : Nat) : Int) := by funext q; simp [dg, z0]
      rw [this, ← encN_enc, stU]
      omega
    · have : hD 0 f = fun _ => 0 := by funext q; simp [hD, topB]
      rw [this]
      show (0 : Nat) = _
      decide +kernel
    · have : tD 0 = fun _ => 0 := by funext q; simp [tD, topB]
      rw [this]; decide +kernel
  | k + 1, hk, h => by
    obtain ⟨h1, h2⟩ := st_rep f c k (by omega) fun i hi => h i (by omega)
    have h3 := h k (by omega)
    rw [stU, stH1, stH]
    cases e : c.testBit k with
    | true =>
      rw [e] at h3
      rw [if_pos rfl, if_pos rfl]
      exact ⟨next_U1 h1 (by omega) h3, next_H1 h2 (by omega) h3⟩
    | false =>
      rw [e] at h3
      rw [if_neg (by decide), if_neg (by decide)]
      exact ⟨next_U0 h1 (by omega) h3, next_H0 h2 (by omega) h3⟩
def Fin2 (k c : Nat) : Prop := ∀ f : Nat → Bool, (∀ i, i < k → f i = c.testBit i) → Ok f z0 1990
theorem fin2 {k c U H1 H B fuel : Nat} (hg : go FULL fuel U H1 H B 1 1990 = true) (hk : k ≤ 32) (h1 : stU c k = U) (h2 : stH1 c k = H1) (h3 : stH k = H) (h4 : stB k = B) : Fin2 k c := fun f hf => by
  obtain ⟨a, b⟩ := st_rep f c k hk hf
  rw [h1] at a
  rw [h2, h3] at b
  exact snd_go fuel k f z0 0 U H1 H B 1 1990 hk a b h4.symm (by omega) hg
/-- The prefixes are all. -/
def cov (L : List (Nat × Nat)) : Nat → Nat → Nat → Bool
  | 0, _, _ => false
  | t + 1, d, m => L.contains (d, m) || (cov L t (d + 1) m && cov L t (d + 1) (m + 2 ^ d))
theorem cov_some {L : List (Nat × Nat)} (hL : ∀ x ∈ L, Fin2 x.1 x.2) (f : Nat → Bool) : ∀ t d m, m < 2 ^ d → (∀ i, i < d → f i = m.testBit i) → cov L t d m = true → Ok f z0 1990
  | 0, _, _, _, _, h => by cases h
  | t + 1, d, m, hm, hf, h => by
    rw [cov, Bool.or_eq_true, Bool.and_eq_true] at h
    rcases h with h | ⟨h1, h2⟩
    · exact hL (d, m) (by simpa using h) f hf
    · have hp : 2 ^ (d + 1) = 2 ^ d + 2 ^ d := by rw [Nat.pow_succ]; omega
      cases e : f d with
      | false =>
        refine cov_some hL f t (d + 1) m (by omega) (fun i hi => ?_) h1
        by_cases e2 : i = d
        · subst e2; rw [e, Nat.testBit_lt_two_pow hm]
        · exact hf i (by omega)
      | true =>
        refine cov_some hL f t (d + 1) (m + 2 ^ d) (by omega) (fun i hi => ?_) h2
        have e3 := Nat.testBit_two_pow_mul_add 1 hm i
        rw [Nat.mul_one] at e3
        rw [Nat.add_comm m, e3]
        by_cases e2 : i = d
        · subst e2; rw [e, if_neg (by omega), Nat.sub_self]; rfl
        · rw [if_pos (by omega)]; exact hf i (by omega)
/-! ### the complement -/
def neg (V : Nat → Int) : Nat → Int := fun q => -V q
def notF (f : Nat → Bool) : Nat → Bool := fun q => !f q
theorem wrg_neg (f : Nat → Bool) (V : Nat → Int) (p : Nat) : wrg (notF f) (neg V) p = wrg f V p := by
  unfold wrg notF neg
  cases f p
  · rw [if_pos (by rfl), if_neg (by decide)]; congr 1; exact propext ⟨fun h => by omega, fun h => by omega⟩
  · rw [if_neg (by decide), if_pos rfl]; congr 1; exact propext ⟨fun h => by omega, fun h => by omega⟩
theorem fw_neg (f : Nat → Bool) (V : Nat → Int) : ∀ d p, fw (notF f) (neg V) d p = fw f V d p
  | 0, _ => rfl
  | d + 1, p => by rw [fw, fw, wrg_neg, fw_neg f V d (p + 1)]
theorem vrun_neg (f : Nat → Bool) : ∀ j, vrun (notF f) z0 j = neg (vrun f z0 j)
  | 0 => by funext q; simp [vrun, neg, z0]
  | j + 1 => by
    rw [vrun, vrun, vstp, vstp, vrun_neg f j, fw_neg]
    cases fw f (vrun f z0 j) 32 0 with
    | none => rfl
    | some p =>
      funext q
      show neg _ q + sgF (notF f) p * KI p q = -(_ + sgF f p * KI p q)
      unfold neg sgF notF
      cases f p
      · rw [if_pos (by rfl), if_neg (by decide)]; omega
      · rw [if_neg (by decide), if_pos rfl]; omega
theorem ok_neg {f : Nat → Bool} (h : Ok (notF f) z0 1990) : Ok f z0 1990 := by
  rcases h with ⟨j, h1, h2⟩ | ⟨i, j, h1, h2, h3⟩
  · rw [vrun_neg, fw_neg] at h2
    exact .inl ⟨j, h1, h2⟩
  · refine .inr ⟨i, j, h1, h2, fun q hq => ?_⟩
    have := h3 q hq
    rw [vrun_neg, vrun_neg] at this
    unfold neg at this
    omega
/-! ### states -/
theorem K_dot : ∀ p q : Fin 32, dot (aV 5 p.val) (aV 5 q.val) = KI p.val q.val := by decide +kernel
theorem vals_add (x : Nat → Int) (s : Int) {p q : Nat} (hp : p < 32) (hq : q < 32) : vals 5 (addS x s (aV 5 p)) q = vals 5 x q + s * KI p q := by
  unfold vals
  rw [dot_add, K_dot ⟨p, hp⟩ ⟨q, hq⟩]
theorem run_v (f : Nat → Bool) : ∀ k, ∀ q, q < 32 → vals 5 (run f 5 32 k) q = vrun f z0 k q
  | 0, q, _ => by simp [run, vrun, vals, z0, dot]
  | k + 1, q, hq => by
    have ih := run_v f k
    have e : fwx f 5 32 (run f 5 32 k) = fw f (vrun f z0 k) 32 0 := by
      unfold fwx
      exact fw_congr fun r _ hr => ih r (by omega)
    rw [run, vrun, stp, vstp, e]
    cases h : fw f (vrun f z0 k) 32 0 with
    | none => exact ih q hq
    | some p =>
      obtain ⟨_, hp, _⟩ := fw_some h
      show vals 5 (addS _ _ _) q = _ + _
      rw [vals_add _ _ (by omega) hq, ih q hq]
/-- A state of fewer variables as one of five. -/
structure Emb (n : Nat) (x y : Nat → Int) : Prop where
  lo : ∀ v, v < n → y v = x v
  mid : ∀ v, n ≤ v → v < 5 → y v = 0
  top : y 5 = x n
  xz : ∀ v, n < v → x v = 0
theorem bI_hi {p v n : Nat} (hp : p < 2 ^ n) (hv : n ≤ v) : bI p v = 0 := by
  unfold bI
  rw [Nat.testBit_lt_two_pow (Nat.lt_of_lt_of_le hp (Nat.pow_le_pow_right (by decide) hv))]; rfl
theorem emb_vals {n : Nat} (hn : n ≤ 5) {x y : Nat → Int} (h : Emb n x y) {p : Nat} (hp : p < 2 ^ n) : vals 5 y p = vals n x p := by
  have ht := h.top
  have hl := h.lo
  have hm := h.mid
  have hb : ∀ v, n ≤ v → bI p v = 0 := fun v hv => bI_hi hp hv
  unfold vals dot aV
  rcases (by omega : n = 0 ∨ n = 1 ∨ n = 2 ∨ n = 3 ∨ n = 4 ∨ n = 5) with rfl | rfl | rfl | rfl | rfl | rfl
  all_goals
    simp only [Nat.reduceEqDiff, Nat.reduceLT, if_pos, if_neg, ite_true, ite_false, ↓reduceIte, Nat.reduceLeDiff, Nat.lt_irrefl, Nat.not_lt_zero, Nat.zero_lt_succ]
    try rw [hl 0 (by omega)]
    try rw [hl 1 (by omega)]
    try rw [hl 2 (by omega)]
    try rw [hl 3 (by omega)]
    try rw [hl 4 (by omega)]
    try rw [hb 0 (by omega)]
    try rw [hb 1 (by omega)]
    try rw [hb 2 (by omega)]
    try rw [hb 3 (by omega)]
    try rw [hb 4 (by omega)]
    rw [ht]
    try simp
theorem emb_step {n : Nat} (hn : n ≤ 5) {x y : Nat → Int} (h : Emb n x y) {p : Nat} (hp : p < 2 ^ n) (s : Int) : Emb n (addS x s (aV n p)) (addS y s (aV 5 p)) := by
  refine ⟨fun v hv => ?_, fun v h1 h2 => ?_, ?_, fun v hv => ?_⟩
  · unfold addS aV
    rw [h.lo v hv, if_neg (by omega), if_pos (by omega), if_neg (by omega), if_pos hv]
  · unfold addS aV
    rw [h.mid v h1 h2, if_neg (by omega), if_pos h2, bI_hi hp h1]; omega
  · unfold addS aV
    rw [h.top, if_pos rfl, if_pos rfl]
  · unfold addS aV
    rw [h.xz v hv, if_neg (by omega), if_neg (by omega)]; omega
theorem emb_inj {n : Nat} (hn : n ≤ 5) {x y x' y' : Nat → Int} (h : Emb n x y) (h' : Emb n x' y') (hv : ∀ q, q < 32 → vals 5 y q = vals 5 y' q) : x = x' := by
  have h0 := hv 0 (by decide)
  have h1 := hv 1 (by decide)
  have h2 := hv 2 (by decide)
  have h3 := hv 4 (by decide)
  have h4 := hv 8 (by decide)
  have h5 := hv 16 (by decide)
  have hall : ∀ p v : Fin 32, v.val < 6 → (p.val = 0 ∨ p.val = 1 ∨ p.val = 2 ∨ p.val = 4 ∨ p.val = 8 ∨ p.val = 16) → aV 5 p.val v.val = if v.val = 5 then -1 else if p.val = 2 ^ v.val then 1 else 0 := by decide +kernel
  have g : ∀ p v, p < 32 → v < 6 → (p = 0 ∨ p = 1 ∨ p = 2 ∨ p = 4 ∨ p = 8 ∨ p = 16) → aV 5 p v = if v = 5 then -1 else if p = 2 ^ v then 1 else 0 := fun p v hp hv h => hall ⟨p, hp⟩ ⟨v, by omega⟩ hv h
  unfold vals dot at h0 h1 h2 h3 h4 h5
  simp only [g 0 0, g 0 1, g 0 2, g 0 3, g 0 4, g 0 5, g 1 0, g 1 1, g 1 2, g 1 3, g 1 4, g 1 5, g 2 0, g 2 1, g 2 2, g 2 3, g 2 4, g 2 5, g 4 0, g 4 1, g 4 2, g 4 3, g 4 4, g 4 5, g 8 0, g 8 1, g 8 2, g 8 3, g 8 4, g 8 5, g 16 0, g 16 1, g 16 2, g 16 3, g 16 4, g 16 5, Nat.reduceLT, Nat.reduceEqDiff, true_or, or_true, Nat.reducePow, ↓reduceIte, forall_const] at h0 h1 h2 h3 h4 h5
  have hy : ∀ v, v < 6 → y v = y' v := fun v hv => by
    rcases (by omega : v = 0 ∨ v = 1 ∨ v = 2 ∨ v = 3 ∨ v = 4 ∨ v = 5) with rfl | rfl | rfl | rfl | rfl | rfl <;> omega
  funext v
  by_cases h6 : v < n
  · rw [← h.lo v h6, ← h'.lo v h6]; exact hy v (by omega)
  · by_cases h7 : v = n
    · subst h7; rw [← h.top, ← h'.top]; exact hy 5 (by decide)
    · rw [h.xz v (by omega), h'.xz v (by omega)]
theorem ends_of {f : Nat → Bool} (hok : Ok f z0 1990) {n : Nat} (hn : n ≤ 5) : (∃ K, K ≤ 1990 ∧ fwx f n (2 ^ n) (run f n (2 ^ n) K) = none) ∨ ∃ J K, J < K ∧ K ≤ 1990 ∧ run f n (2 ^ n) J = run f n (2 ^ n) K := by
  have hp32 : 2 ^ n ≤ 32 := (Nat.pow_le_pow_right (by decide) hn : 2 ^ n ≤ 2 ^ 5)
  by_cases hl : ∃ K, K ≤ 1990 ∧ fwx f n (2 ^ n) (run f n (2 ^ n) K) = none
  · exact .inl hl
  right
  have hE : ∀ k, k ≤ 1990 → Emb n (run f n (2 ^ n) k) (run f 5 32 k) := by
    intro k
    induction k with
    | zero => exact fun _ => ⟨fun _ _ => rfl, fun _ _ _ => rfl, rfl, fun _ _ => rfl⟩
    | succ k ih =>
      intro hk
      have h := ih (by omega)
      cases e : fwx f n (2 ^ n) (run f n (2 ^ n) k) with
      | none => exact absurd ⟨k, by omega, e⟩ hl
      | some p =>
        obtain ⟨_, h1, h2, h3⟩ := fw_some e
        have e5 : fwx f 5 32 (run f 5 32 k) = some p := by
          refine fw_at (Nat.zero_le _) (by omega) ?_ fun r _ hr => ?_
          · unfold wrg at h2 ⊢
            rw [emb_vals hn h (by omega)]; exact h2
          · have := h3 r (by omega) hr
            unfold wrg at this ⊢
            rw [emb_vals hn h (by omega)]; exact this
        rw [run_succ e, run_succ e5]
        exact emb_step hn h (by omega) _
  rcases hok with ⟨j, h1, h2⟩ | ⟨i, j, h1, h2, h3⟩
  · refine absurd ⟨j, h1, fw_none.2 fun r _ hr => ?_⟩ hl
    have := fw_none.1 h2 r (by omega) (by omega)
    unfold wrg at this ⊢
    rw [← run_v f j r (by omega), emb_vals hn (hE j h1) (by omega)] at this
    exact this
  · refine ⟨i, j, h1, h2, emb_inj hn (hE i (by omega)) (hE j h2) fun q hq => ?_⟩
    rw [run_v f i q hq, run_v f j q hq]
    exact h3 q hq
end Go.Proofs.Ythpahlkhiknofaa.J
