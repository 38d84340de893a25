/- The perceptron in plain words: it ends where weights exist. -/
import Derived.KernelRfl
namespace Go.Proofs.Ythpahlkhiknofaa.J
def bI (p i : Nat) : Int := if p.testBit i = true then 1 else 0
theorem bI_cases (p i : Nat) : bI p i = 0 ∨ bI p i = 1 := by unfold bI; split <;> simp
def aV (n p v : Nat) : Int := if v = n then -1 else if v < n then bI p v else 0
theorem aV_sq (n p v : Nat) : aV n p v * aV n p v ≤ 1 := by
  unfold aV
  split
  · decide
  · split
    · rcases bI_cases p v with h | h <;> rw [h] <;> decide
    · decide
def dot (f g : Nat → Int) : Int := f 0 * g 0 + f 1 * g 1 + f 2 * g 2 + f 3 * g 3 + f 4 * g 4 + f 5 * g 5
def addS (x : Nat → Int) (s : Int) (a : Nat → Int) : Nat → Int := fun v => x v + s * a v
theorem dot_add (x a w : Nat → Int) (s : Int) : dot (addS x s a) w = dot x w + s * dot a w := by
  unfold dot addS; grind
theorem dot_self (x a : Nat → Int) (s : Int) : dot (addS x s a) (addS x s a) = dot x x + 2 * (s * dot x a) + s * s * dot a a := by
  unfold dot addS; grind
theorem dot_comm (x y : Nat → Int) : dot x y = dot y x := by
  unfold dot; grind
theorem dot_aa (n p : Nat) : dot (aV n p) (aV n p) ≤ 6 := by
  have h0 := aV_sq n p 0
  have h1 := aV_sq n p 1
  have h2 := aV_sq n p 2
  have h3 := aV_sq n p 3
  have h4 := aV_sq n p 4
  have h5 := aV_sq n p 5
  unfold dot; omega
theorem sq_nn (a : Int) : 0 ≤ a * a := by
  rcases Int.le_total 0 a with h | h
  · exact Int.mul_nonneg h h
  · exact Int.mul_nonneg_of_nonpos_of_nonpos h h
theorem norm_nn (x : Nat → Int) : 0 ≤ dot x x := by
  have h0 := sq_nn (x 0)
  have h1 := sq_nn (x 1)
  have h2 := sq_nn (x 2)
  have h3 := sq_nn (x 3)
  have h4 := sq_nn (x 4)
  have h5 := sq_nn (x 5)
  unfold dot; omega
theorem norm_diff (x w : Nat → Int) : 8 * dot x w ≤ dot x x + 16 * dot w w := by
  have h := norm_nn (addS x (-4) w)
  rw [dot_self] at h
  omega
/-- The first point on the wrong side. -/
def wrg (f : Nat → Bool) (V : Nat → Int) (p : Nat) : Bool := if f p = true then decide (V p ≤ 0) else decide (0 ≤ V p)
def fw (f : Nat → Bool) (V : Nat → Int) : Nat → Nat → Option Nat
  | 0, _ => none
  | d + 1, p => if wrg f V p = true then some p else fw f V d (p + 1)
theorem fw_some {f : Nat → Bool} {V : Nat → Int} : ∀ {d p q}, fw f V d p = some q → p ≤ q ∧ q < p + d ∧ wrg f V q = true ∧ ∀ r, p ≤ r → r < q → wrg f V r = false
  | 0, _, _, h => by cases h
  | d + 1, p, q, h => by
    rw [fw] at h
    by_cases e : wrg f V p = true
    · rw [if_pos e] at h
      obtain rfl := Option.some.inj h
      exact ⟨Nat.le_refl _, by omega, e, fun r h1 h2 => by omega⟩
    · rw [if_neg e] at h
      obtain ⟨h1, h2, h3, h4⟩ := fw_some h
      refine ⟨by omega, by omega, h3, fun r h5 h6 => ?_⟩
      by_cases e2 : r = p
      · subst e2; simpa using e
      · exact h4 r (by omega) h6
theorem fw_none {f : Nat → Bool} {V : Nat → Int} : ∀ {d p}, fw f V d p = none ↔ ∀ r, p ≤ r → r < p + d → wrg f V r = false
  | 0, p => ⟨fun _ r h1 h2 => by omega, fun _ => rfl⟩
  | d + 1, p => by
    rw [fw]
    by_cases e : wrg f V p = true
    · rw [if_pos e]
      exact ⟨fun h => (by cases h), fun h => absurd e (by rw [h p (by omega) (by omega)]; decide)⟩
    · rw [if_neg e, fw_none (d := d) (p := p + 1)]
      constructor
      · intro h r h1 h2
        by_cases e2 : r = p
        · subst e2; simpa using e
        · exact h r (by omega) (by omega)
      · exact fun h r h1 h2 => h r (by omega) (by omega)
theorem fw_at {f : Nat → Bool} {V : Nat → Int} {q : Nat} : ∀ {d p}, p ≤ q → q < p + d → wrg f V q = true → (∀ r, p ≤ r → r < q → wrg f V r = false) → fw f V d p = some q
  | 0, p, h1, h2, _, _ => by omega
  | d + 1, p, h1, h2, h3, h4 => by
    rw [fw]
    by_cases e : q = p
    · subst e; rw [if_pos h3]
    · rw [if_neg (by rw [h4 p (by omega) (by omega)]; decide)]
      exact fw_at (by omega) (by omega) h3 fun r h5 h6 => h4 r (by omega) h6
theorem fw_congr {f : Nat → Bool} {V W : Nat → Int} : ∀ {d p}, (∀ r, p ≤ r → r < p + d → V r = W r) → fw f V d p = fw f W d p
  | 0, _, _ => rfl
  | d + 1, p, h => by
    rw [fw, fw, fw_congr (fun r h1 h2 => h r (by omega) (by omega))]
    unfold wrg
    rw [h p (by omega) (by omega)]
def sgF (f : Nat → Bool) (p : Nat) : Int := if f p = true then 1 else -1
theorem sgF_cases (f : Nat → Bool) (p : Nat) : sgF f p = 1 ∨ sgF f p = -1 := by unfold sgF; split <;> simp
def vals (n : Nat) (x : Nat → Int) : Nat → Int := fun p => dot x (aV n p)
def fwx (f : Nat → Bool) (n m : Nat) (x : Nat → Int) : Option Nat := fw f (vals n x) m 0
def stp (f : Nat → Bool) (n m : Nat) (x : Nat → Int) : Nat → Int := match fwx f n m x with
  | none => x
  | some p => addS x (sgF f p) (aV n p)
def z0 : Nat → Int := fun _ => 0
def run (f : Nat → Bool) (n m : Nat) : Nat → Nat → Int
  | 0 => z0
  | k + 1 => stp f n m (run f n m k)
theorem run_succ {f : Nat → Bool} {n m k p : Nat} (h : fwx f n m (run f n m k) = some p) : run f n m (k + 1) = addS (run f n m k) (sgF f p) (aV n p) := by
  rw [run, stp, h]
theorem wrong_sg {f : Nat → Bool} {n m k p : Nat} (h : fwx f n m (run f n m k) = some p) : sgF f p * dot (run f n m k) (aV n p) ≤ 0 ∧ p < m := by
  obtain ⟨_, h1, h2, _⟩ := fw_some h
  refine ⟨?_, by omega⟩
  unfold wrg vals at h2
  unfold sgF
  by_cases e : f p = true
  · rw [if_pos e] at h2 ⊢
    have := of_decide_eq_true h2
    omega
  · rw [if_neg e] at h2 ⊢
    have := of_decide_eq_true h2
    omega
/-- Weights with a margin. -/
def Marg (f : Nat → Bool) (n m : Nat) (w : Nat → Int) : Prop := ∀ p, p < m → 1 ≤ sgF f p * dot (aV n p) w
section
variable {f : Nat → Bool} {n m : Nat} {w : Nat → Int} (hw : Marg f n m w)
include hw
theorem conv_step {k : Nat} {p : Nat} (h : fwx f n m (run f n m k) = some p) : dot (run f n m k) w + 1 ≤ dot (run f n m (k + 1)) w := by
  obtain ⟨_, hp⟩ := wrong_sg h
  have h2 := hw p hp
  rw [run_succ h, dot_add]
  omega
theorem conv_dot : ∀ k, (∀ j, j < k → fwx f n m (run f n m j) ≠ none) → (k : Int) ≤ dot (run f n m k) w ∧ dot (run f n m k) (run f n m k) ≤ 6 * k
  | 0, _ => by constructor <;> simp [run, z0, dot]
  | k + 1, h => by
    obtain ⟨h1, h2⟩ := conv_dot k fun j hj => h j (by omega)
    cases e : fwx f n m (run f n m k) with
    | none => exact absurd e (h k (by omega))
    | some p =>
      have h3 := conv_step hw e
      refine ⟨by omega, ?_⟩
      obtain ⟨h4, _⟩ := wrong_sg e
      have h5 := dot_aa n p
      rw [run_succ e, dot_self]
      have h6 : sgF f p * sgF f p = 1 := by rcases sgF_cases f p with e | e <;> rw [e] <;> decide
      rw [h6]
      omega
theorem conv_bound {k : Nat} (h : ∀ j, j < k → fwx f n m (run f n m j) ≠ none) : (k : Int) ≤ 8 * dot w w := by
  obtain ⟨h1, h2⟩ := conv_dot hw k h
  have h3 := norm_diff (run f n m k) w
  omega
theorem conv_mono {K : Nat} (h : ∀ j, j < K → fwx f n m (run f n m j) ≠ none) : ∀ d i, i + d ≤ K → dot (run f n m i) w + d ≤ dot (run f n m (i + d)) w
  | 0, i, _ => by simp
  | d + 1, i, hd => by
    have ih := conv_mono h d i (by omega)
    cases e : fwx f n m (run f n m (i + d)) with
    | none => exact absurd e (h _ (by omega))
    | some p =>
      have h3 := conv_step hw e
      rw [← Nat.add_assoc]
      omega
theorem conv_inj {K : Nat} (h : ∀ j, j < K → fwx f n m (run f n m j) ≠ none) {i j : Nat} (hij : i < j) (hj : j ≤ K) : run f n m i ≠ run f n m j := by
  intro e
  have := conv_mono hw h (j - i) i (by omega)
  rw [show i + (j - i) = j by omega, e] at this
  omega
theorem conv_end : ∃ K : Nat, (K : Int) ≤ 8 * dot w w ∧ fwx f n m (run f n m K) = none ∧ (∀ j, j < K → fwx f n m (run f n m j) ≠ none) := by
  have hex : ∃ K, fwx f n m (run f n m K) = none := by
    apply Classical.byContradiction
    intro hn
    have h : ∀ j, fwx f n m (run f n m j) ≠ none := fun j e => hn ⟨j, e⟩
    have := conv_bound hw (k := (8 * dot w w).toNat + 1) fun j _ => h j
    omega
  have key : ∀ K, fwx f n m (run f n m K) = none → ∃ J, fwx f n m (run f n m J) = none ∧ ∀ j, j < J → fwx f n m (run f n m j) ≠ none := by
    intro K
    induction K using Nat.strongRecOn with
    | ind K ih =>
      intro hK
      by_cases hall : ∀ j, j < K → fwx f n m (run f n m j) ≠ none
      · exact ⟨K, hK, hall⟩
      · obtain ⟨j, hj⟩ := Classical.not_forall.1 hall
        obtain ⟨hj1, hj2⟩ := Classical.not_imp.1 hj
        exact ih j hj1 (Classical.not_not.1 hj2)
  obtain ⟨K, hK⟩ := hex
  obtain ⟨J, h1, h2⟩ := key K hK
  exact ⟨J, conv_bound hw h2, h1, h2⟩
end
end Go.Proofs.Ythpahlkhiknofaa.J
