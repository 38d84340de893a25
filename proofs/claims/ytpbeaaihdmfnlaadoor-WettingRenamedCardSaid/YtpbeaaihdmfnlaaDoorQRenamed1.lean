/- Several texts, joined. -/
import Derived.Test.YtpbeaaihdmfnlaaDoorQB6
namespace Go.Proofs.YtpbeaaihdmfnlaaDoor.G
end Go.Proofs.YtpbeaaihdmfnlaaDoor.G
namespace Go.Proofs.YtpbeaaihdmfnlaaDoor.H
end Go.Proofs.YtpbeaaihdmfnlaaDoor.H
namespace Go.Proofs.YtpbeaaihdmfnlaaDoor.M
end Go.Proofs.YtpbeaaihdmfnlaaDoor.M
namespace Go.Proofs.YtpbeaaihdmfnlaaDoor.Row
end Go.Proofs.YtpbeaaihdmfnlaaDoor.Row
namespace Go.Proofs.YtpbeaaihdmfnlaaDoorW.PrintLast
end Go.Proofs.YtpbeaaihdmfnlaaDoorW.PrintLast
namespace Go.Proofs.YtpbeaaihdmfnlaaDoorW.PrintMore
end Go.Proofs.YtpbeaaihdmfnlaaDoorW.PrintMore
namespace Go.Proofs.YtpbeaaihdmfnlaaDoorW.PrintWords
end Go.Proofs.YtpbeaaihdmfnlaaDoorW.PrintWords

/- ### Pq -/
/- A renaming of the places, plain. -/
namespace Go.Proofs.YtpbeaaihdmfnlaaDoor.P
open Go Go.RowKit Go.Proofs.YtpbeaaihdmfnlaaDoor.M Go.Proofs.YtpbeaaihdmfnlaaDoor.H Go.Proofs.YtpbeaaihdmfnlaaDoor.G
open Go.Proofs.YtpbeaaihdmfnlaaDoorW.PrintWords Go.Proofs.YtpbeaaihdmfnlaaDoorW.PrintMore

/-- 'p' renames the places below 'n', 'q' turns it back. -/
structure Perm (n : Nat) (p q : Nat → Nat) : Prop where
  p_lt : ∀ i, i < n → p i < n
  q_lt : ∀ i, i < n → q i < n
  left : ∀ i, i < n → q (p i) = i
  right : ∀ i, i < n → p (q i) = i
theorem Perm.symm {n : Nat} {p q : Nat → Nat} (h : Perm n p q) : Perm n q p := ⟨h.q_lt, h.p_lt, h.right, h.left⟩
/-- A renamed set. -/
def ren (n : Nat) (q : Nat → Nat) (s : Nat) : Nat := ofList ((List.range n).filter fun j => s.testBit (q j))
theorem testBit_ren {n s j : Nat} {q : Nat → Nat} : (ren n q s).testBit j = true ↔ j < n ∧ s.testBit (q j) = true := by
  unfold ren
  rw [testBit_ofList, decide_eq_true_iff, List.mem_filter, List.mem_range]
theorem ren_lt {n s : Nat} {q : Nat → Nat} : ren n q s < 2 ^ n := ofList_lt fun x hx => List.mem_range.1 (List.mem_filter.1 hx).1
theorem ext_bit {a b : Nat} (h : ∀ i, a.testBit i = true ↔ b.testBit i = true) : a = b := Nat.eq_of_testBit_eq fun i => by rw [Bool.eq_iff_iff]; exact h i
section
variable {n : Nat} {p q : Nat → Nat}
theorem ren_ren (h : Perm n p q) {s : Nat} (hs : s < 2 ^ n) : ren n p (ren n q s) = s := ext_bit fun i => by
  rw [testBit_ren, testBit_ren]
  constructor
  · rintro ⟨h1, _, h2⟩
    rw [h.left i h1] at h2; exact h2
  · intro hi
    have h1 := bit_lt hs hi
    exact ⟨h1, h.p_lt i h1, by rw [h.left i h1]; exact hi⟩
theorem ren_card_le (h : Perm n p q) (hn : n ≤ 12) {s : Nat} (hs : s < 2 ^ n) : card s ≤ card (ren n q s) := by
  have hnd : ((bitsOf s).map p).Nodup := by
    rw [List.nodup_iff_pairwise_ne, List.pairwise_map]
    refine List.Pairwise.imp_of_mem ?_ (List.nodup_iff_pairwise_ne.1 (bitsOf_nodup s))
    intro a b ha hb hab e
    have ha' := bit_lt hs (mem_bitsOf.1 ha).2
    have hb' := bit_lt hs (mem_bitsOf.1 hb).2
    apply hab
    rw [← h.left a ha', e, h.left b hb']
  have := nodup_le hnd (m := bitsOf (ren n q s)) (fun x hx => by
    obtain ⟨i, hi, rfl⟩ := List.mem_map.1 hx
    have hb := (mem_bitsOf.1 hi).2
    have hi' := bit_lt hs hb
    have := h.p_lt i hi'
    exact mem_bitsOf.2 ⟨by omega, testBit_ren.2 ⟨this, by rw [h.left i hi']; exact hb⟩⟩)
  rw [List.length_map] at this
  exact this
theorem ren_card (h : Perm n p q) (hn : n ≤ 12) {s : Nat} (hs : s < 2 ^ n) : card (ren n q s) = card s := by
  refine Nat.le_antisymm ?_ (ren_card_le h hn hs)
  have := ren_card_le h.symm hn (ren_lt (n := n) (q := q) (s := s))
  rw [ren_ren h hs] at this; exact this
theorem ren_sub (h : Perm n p q) {a b : Nat} (ha : a < 2 ^ n) : Sub (ren n q a) (ren n q b) ↔ Sub a b := by
  constructor
  · intro hs i hi
    have h1 := bit_lt ha hi
    have := hs (p i) (testBit_ren.2 ⟨h.p_lt i h1, by rw [h.left i h1]; exact hi⟩)
    have := (testBit_ren.1 this).2
    rw [h.left i h1] at this; exact this
  · intro hs j hj
    obtain ⟨h1, h2⟩ := testBit_ren.1 hj
    exact testBit_ren.2 ⟨h1, hs _ h2⟩
theorem ren_or {a b : Nat} : ren n q (a ||| b) = ren n q a ||| ren n q b := ext_bit fun i => by
  rw [testBit_ren, Nat.testBit_or, Nat.testBit_or, Bool.or_eq_true, Bool.or_eq_true, testBit_ren, testBit_ren]
  exact ⟨fun ⟨h1, h2⟩ => h2.elim (fun h => .inl ⟨h1, h⟩) (fun h => .inr ⟨h1, h⟩), fun h => h.elim (fun ⟨a, b⟩ => ⟨a, .inl b⟩) (fun ⟨a, b⟩ => ⟨a, .inr b⟩)⟩
theorem ren_full (h : Perm n p q) : ren n q (full n) = full n := ext_bit fun i => by
  rw [testBit_ren, testBit_full, testBit_full, decide_eq_true_iff, decide_eq_true_iff]
  exact ⟨fun h => h.1, fun h1 => ⟨h1, h.q_lt i h1⟩⟩
theorem ren_zero {s : Nat} (h : Perm n p q) (hs : s < 2 ^ n) : ren n q s = 0 ↔ s = 0 := by
  constructor
  · intro h0
    rw [← ren_ren h hs, h0]
    exact ext_bit fun i => by rw [testBit_ren, Nat.zero_testBit]; simp
  · rintro rfl
    exact ext_bit fun i => by rw [testBit_ren, Nat.zero_testBit]; simp
theorem ren_inj (h : Perm n p q) {a b : Nat} (ha : a < 2 ^ n) (hb : b < 2 ^ n) (e : ren n q a = ren n q b) : a = b := by
  rw [← ren_ren h ha, e, ren_ren h hb]
/-- Two graphs that are the same but for the names. -/
structure Iso (n : Nat) (p q : Nat → Nat) (near near' : Nat → Nat) : Prop where
  perm : Perm n p q
  lt : ∀ v, near v < 2 ^ n
  lt' : ∀ v, near' v < 2 ^ n
  adj : ∀ i j, i < n → j < n → (near' (p i)).testBit (p j) = (near i).testBit j
variable {near near' : Nat → Nat}
theorem Iso.symm (h : Iso n p q near near') : Iso n q p near' near := ⟨h.perm.symm, h.lt', h.lt, fun i j hi hj => by
  rw [← h.adj (q i) (q j) (h.perm.q_lt i hi) (h.perm.q_lt j hj), h.perm.right i hi, h.perm.right j hj]⟩
theorem Iso.nearEq (h : Iso n p q near near') {v : Nat} (hv : v < n) : near' (p v) = ren n q (near v) := ext_bit fun j => by
  rw [testBit_ren]
  constructor
  · intro hj
    have h1 := bit_lt (h.lt' _) hj
    refine ⟨h1, ?_⟩
    rw [← h.adj v (q j) hv (h.perm.q_lt j h1), h.perm.right j h1]; exact hj
  · rintro ⟨h1, h2⟩
    rw [← h.adj v (q j) hv (h.perm.q_lt j h1), h.perm.right j h1] at h2; exact h2
theorem ren_andNot {a b : Nat} : ren n q (andNot a b) = andNot (ren n q a) (ren n q b) := Nat.eq_of_testBit_eq fun i => by
  have e : ∀ s, (ren n q s).testBit i = (decide (i < n) && s.testBit (q i)) := fun s => by
    rw [Bool.eq_iff_iff, testBit_ren, Bool.and_eq_true, decide_eq_true_iff]
  rw [testBit_andNot, e, e, e, testBit_andNot]
  cases decide (i < n) <;> cases a.testBit (q i) <;> cases b.testBit (q i) <;> rfl
theorem ren_and {a b : Nat} : ren n q (a &&& b) = ren n q a &&& ren n q b := Nat.eq_of_testBit_eq fun i => by
  have e : ∀ s, (ren n q s).testBit i = (decide (i < n) && s.testBit (q i)) := fun s => by
    rw [Bool.eq_iff_iff, testBit_ren, Bool.and_eq_true, decide_eq_true_iff]
  rw [Nat.testBit_and, e, e, e, Nat.testBit_and]
  cases decide (i < n) <;> cases a.testBit (q i) <;> cases b.testBit (q i) <;> rfl
theorem Iso.forced (h : Iso n p q near near') (hn : n ≤ 12) {s : Nat} (hs : s < 2 ^ n) : forcedM near' (ren n q s) = ren n q (forcedM near s) := ext_bit fun j => by
  have hl : ∀ v, (andNot (near v) s) < 2 ^ n := fun v => andNot_lt (h.lt v)
  rw [testBit_forced (lt64 hn ren_lt), testBit_ren, testBit_forced (lt64 hn hs)]
  constructor
  · rintro ⟨v, h1, h2, h3⟩
    obtain ⟨k1, k2⟩ := testBit_ren.1 h1
    have e : near' v = ren n q (near (q v)) := by rw [← h.nearEq (h.perm.q_lt v k1), h.perm.right v k1]
    rw [e, ← ren_andNot] at h2 h3
    rw [ren_card h.perm hn (hl _)] at h2
    obtain ⟨k3, k4⟩ := testBit_ren.1 h3
    exact ⟨k3, q v, k2, h2, k4⟩
  · rintro ⟨k3, v, k2, h2, k4⟩
    have hv := bit_lt hs k2
    refine ⟨p v, testBit_ren.2 ⟨h.perm.p_lt v hv, by rw [h.perm.left v hv]; exact k2⟩, ?_, ?_⟩
    · rw [h.nearEq hv, ← ren_andNot, ren_card h.perm hn (hl _)]; exact h2
    · rw [h.nearEq hv, ← ren_andNot]; exact testBit_ren.2 ⟨k3, k4⟩
theorem Iso.soaked (h : Iso n p q near near') (hn : n ≤ 12) {s : Nat} {r : Int} : soakedM n near' r (ren n q s) = ren n q (soakedM n near r s) := ext_bit fun j => by
  rw [testBit_soaked (by omega), testBit_ren, testBit_soaked (by omega)]
  have key : ∀ k, k < n → card (near' k &&& ren n q s) = card (near (q k) &&& s) := fun k hk => by
    have e : near' k = ren n q (near (q k)) := by rw [← h.nearEq (h.perm.q_lt k hk), h.perm.right k hk]
    rw [e, ← ren_and]
    exact ren_card h.perm hn (Nat.lt_of_le_of_lt Nat.and_le_left (h.lt _))
  constructor
  · rintro ⟨h1, h2, h3⟩
    rw [key j h1] at h3
    refine ⟨h1, h.perm.q_lt j h1, ?_, h3⟩
    cases hb : s.testBit (q j) with
    | false => rfl
    | true => rw [testBit_ren.2 ⟨h1, hb⟩] at h2; cases h2
  · rintro ⟨h1, _, h2, h3⟩
    refine ⟨h1, ?_, by rw [key j h1]; exact h3⟩
    cases hb : (ren n q s).testBit j with
    | false => rfl
    | true => rw [(testBit_ren.1 hb).2] at h2; cases h2
/-- Rounds of a rule and of the renamed rule. -/
theorem close_ren (hP : Perm n p q) (hn : n ≤ 12) {f f' : Nat → Nat} (g : Good f n) (hf : ∀ s, s < 2 ^ n → f' (ren n q s) = ren n q (f s)) : ∀ (fuel s k : Nat) (ρ ρ' : Nat → Int), s < 2 ^ n → (∀ i, i < n → ρ' (p i) = ρ i) →
    (closeM f' fuel (ren n q s) k ρ').1 = ren n q (closeM f fuel s k ρ).1 ∧ ∀ i, i < n → (closeM f' fuel (ren n q s) k ρ').2 (p i) = (closeM f fuel s k ρ).2 i
  | 0, s, k, ρ, ρ', _, hρ => ⟨rfl, hρ⟩
  | fuel + 1, s, k, ρ, ρ', hs, hρ => by
    rw [closeM, closeM, hf s hs]
    by_cases h0 : f s = 0
    · rw [if_pos ((ren_zero hP (g.lt s)).2 h0), if_pos h0]
      exact ⟨rfl, hρ⟩
    · rw [if_neg (fun e => h0 ((ren_zero hP (g.lt s)).1 e)), if_neg h0, ← ren_or]
      refine close_ren hP hn g hf fuel _ _ _ _ (g.or_lt hs) (fun i hi => ?_)
      unfold markR
      have : p i ∈ bitsOf (ren n q (f s)) ↔ i ∈ bitsOf (f s) := by
        have := hP.p_lt i hi
        rw [mem_bitsOf, mem_bitsOf, testBit_ren, hP.left i hi]
        exact ⟨fun h => ⟨by omega, h.2.2⟩, fun h => ⟨by omega, this, h.2⟩⟩
      by_cases hm : i ∈ bitsOf (f s)
      · rw [if_pos hm, if_pos (this.2 hm)]
      · rw [if_neg hm, if_neg (fun h => hm (this.1 h))]; exact hρ i hi
theorem closeR_ren (hP : Perm n p q) (hn : n ≤ 12) {f f' : Nat → Nat} (g : Good f n) (hf : ∀ s, s < 2 ^ n → f' (ren n q s) = ren n q (f s)) {s : Nat} (hs : s < 2 ^ n) :
    (closeR f' n (ren n q s)).1 = ren n q (closeR f n s).1 ∧ ∀ i, i < n → (closeR f' n (ren n q s)).2 (p i) = (closeR f n s).2 i := by
  refine close_ren hP hn g hf (2 ^ n) s 1 _ _ hs (fun i hi => ?_)
  unfold markR
  have : p i ∈ bitsOf (ren n q s) ↔ i ∈ bitsOf s := by
    have := hP.p_lt i hi
    rw [mem_bitsOf, mem_bitsOf, testBit_ren, hP.left i hi]
    exact ⟨fun h => ⟨by omega, h.2.2⟩, fun h => ⟨by omega, this, h.2⟩⟩
  by_cases hm : i ∈ bitsOf s
  · rw [if_pos hm, if_pos (this.2 hm)]
  · rw [if_neg hm, if_neg (fun h => hm (this.1 h))]
theorem good_ren (hP : Perm n p q) (hn : n ≤ 12) {f f' : Nat → Nat} (g : Good f n) (hf : ∀ s, s < 2 ^ n → f' (ren n q s) = ren n q (f s)) {s : Nat} (hs : s < 2 ^ n) : goodB f' n (ren n q s) = goodB f n s := by
  have h1 := (closeR_ren hP hn g hf hs).1
  have h2 : (closeR f n s).1 < 2 ^ n := cl_lt g hs
  unfold goodB
  rw [h1, Bool.eq_iff_iff, beq_iff_eq, beq_iff_eq]
  constructor
  · intro e
    refine ren_inj hP h2 (full_lt n n (Nat.le_refl n)) ?_
    rw [e, ren_full hP]
  · intro e; rw [e, ren_full hP]
theorem first_card_le (hP : Perm n p q) (hn : n ≤ 12) {f f' : Nat → Nat} (g : Good f n) (g' : Good f' n) (hf : ∀ s, s < 2 ^ n → f' (ren n q s) = ren n q (f s)) : card (firstM f' n) ≤ card (firstM f n) := by
  have h1 := first_first hn g
  have h2 := first_first hn g'
  have h3 := good_ren hP hn g hf h1.lt
  rw [h1.good] at h3
  rw [← ren_card hP hn h1.lt]
  by_cases e : ren n q (firstM f n) = firstM f' n
  · rw [e]; exact Nat.le_refl _
  · exact before_card (h2.first _ ren_lt h3 e)
theorem Iso.least (h : Iso n p q near near') (hn : n ≤ 12) : card (firstM (forcedM near') n) = card (firstM (forcedM near) n) :=
  Nat.le_antisymm (first_card_le h.perm hn (good_forced h.lt) (good_forced h.lt') fun _ hs => h.forced hn hs) (first_card_le h.perm.symm hn (good_forced h.lt') (good_forced h.lt) fun _ hs => h.symm.forced hn hs)
theorem Iso.fewest (h : Iso n p q near near') (hn : n ≤ 12) (r : Int) : card (firstM (soakedM n near' r) n) = card (firstM (soakedM n near r) n) :=
  Nat.le_antisymm (first_card_le h.perm hn (good_soaked (by omega)) (good_soaked (by omega)) fun _ _ => h.soaked hn) (first_card_le h.perm.symm hn (good_soaked (by omega)) (good_soaked (by omega)) fun _ _ => h.symm.soaked hn)
theorem Iso.fort (h : Iso n p q near near') (hn : n ≤ 12) {s : Nat} (hs : s < 2 ^ n) (hF : fortM n near s = true) : fortM n near' (ren n q s) = true := by
  rw [fort_iff (by omega)] at hF ⊢
  refine ⟨fun e => hF.1 ((ren_zero h.perm hs).1 e), fun v hv hb => ?_⟩
  have e : near' v = ren n q (near (q v)) := by rw [← h.nearEq (h.perm.q_lt v hv), h.perm.right v hv]
  rw [e, ← ren_and, ren_card h.perm hn (Nat.lt_of_le_of_lt Nat.and_le_left (h.lt _))]
  refine hF.2 _ (h.perm.q_lt v hv) ?_
  cases hb2 : s.testBit (q v) with
  | false => rfl
  | true => rw [testBit_ren.2 ⟨hv, hb2⟩] at hb; cases hb
theorem Iso.minFort (h : Iso n p q near near') (hn : n ≤ 12) {s : Nat} (hs : s < 2 ^ n) (hF : MinFort n near s) : MinFort n near' (ren n q s) := by
  refine ⟨h.fort hn hs hF.1, fun y hy hyF => ?_⟩
  have hyl := lt_of_sub hy (ren_lt (n := n) (q := q) (s := s))
  have h1 := h.symm.fort hn hyl hyF
  have h2 : Sub (ren n p y) s := by
    have := (ren_sub h.perm.symm hyl (b := ren n q s)).2 hy
    rw [ren_ren h.perm hs] at this; exact this
  have := hF.2 _ h2 h1
  rw [← this, ren_ren h.perm.symm hyl]
theorem Iso.forts_le (h : Iso n p q near near') (hn : n ≤ 12) : (fortsM n near).length ≤ (fortsM n near').length := by
  obtain ⟨s1, s2⟩ := forts_spec (near := near) hn
  obtain ⟨s3, s4⟩ := forts_spec (near := near') hn
  have hnd : ((fortsM n near).map (ren n q)).Nodup := by
    rw [List.nodup_iff_pairwise_ne, List.pairwise_map]
    refine List.Pairwise.imp_of_mem ?_ s2
    intro a b ha hb hab e
    exact before_ne hab (ren_inj h.perm ((s1 a).1 ha).1 ((s1 b).1 hb).1 e)
  have := nodup_le hnd (m := fortsM n near') (fun x hx => by
    obtain ⟨i, hi, rfl⟩ := List.mem_map.1 hx
    exact (s3 _).2 ⟨ren_lt, h.minFort hn ((s1 i).1 hi).1 ((s1 i).1 hi).2⟩)
  rw [List.length_map] at this
  exact this
theorem Iso.forts (h : Iso n p q near near') (hn : n ≤ 12) : (fortsM n near).length = (fortsM n near').length := Nat.le_antisymm (h.forts_le hn) (h.symm.forts_le hn)
end
end Go.Proofs.YtpbeaaihdmfnlaaDoor.P

/- ### Gx12 -/
-- Written by a program for this seat: plain functions and their walks.
namespace Go.Proofs.YtpbeaaihdmfnlaaDoor.G
open Go.RowKit Go.Proofs.YtpbeaaihdmfnlaaDoor.H Go.Proofs.YtpbeaaihdmfnlaaDoorW.PrintWords Go.Proofs.YtpbeaaihdmfnlaaDoorW.PrintLast Go.Proofs.YtpbeaaihdmfnlaaDoorW.PrintMore
attribute [local go_sem] max2_int min2_int max_two min_two max_three min_three max_four min_four   -- for this text's walks alone
set_option linter.unusedVariables false
set_option linter.unusedSimpArgs false

/-! ### numnahlaw06_WettingRenamed: function 5 -/
mutual
def numnahlaw06_WettingRenamed.l0 : Nat → Int → List Int → List (S48) → List Int → Int → Option (Bool)
 | 0, _, _, _, _, _ => none
 | k + 1, x0, x2, x7, x8, x9 => if x9 < x0 then (if (wrap64 (x9 + 1)) < (x2.length : Int) then (if 0 ≤ (wrap64 (x9 + 1)) then ((numnahlaw06_mod.f (rd x2 (wrap64 (x9 + 1))) (wrap64 (x9 + 1))).bind fun t289 => (if 0 ≤ t289 then (if t289 ≤ (x8.length : Int) then ((some (x8.take (t289 : Int).toNat : List Int)).bind fun y290 => (if ([] : List Int).length + y290.length < 17592186044416 then ((some (([] : List Int) ++ y290 : List Int)).bind fun y294 => (if y294.length < 17592186044416 then ((some (y294 ++ [x9] : List Int)).bind fun y297 => ((some (x8.drop (t289 : Int).toNat : List Int)).bind fun y300 => (if y297.length + y300.length < 17592186044416 then (numnahlaw06_WettingRenamed.l0 k x0 x2 x7 (y297 ++ y300) (wrap64 (x9 + 1))) else (none)))) else (none))) else (none))) else (none)) else (none))) else (none)) else (if 0 ≤ x9 then (if x9 ≤ (x8.length : Int) then ((some (x8.take (x9 : Int).toNat : List Int)).bind fun y307 => (if ([] : List Int).length + y307.length < 17592186044416 then ((some (([] : List Int) ++ y307 : List Int)).bind fun y311 => (if y311.length < 17592186044416 then ((some (y311 ++ [x9] : List Int)).bind fun y314 => ((some (x8.drop (x9 : Int).toNat : List Int)).bind fun y317 => (if y314.length + y317.length < 17592186044416 then (numnahlaw06_WettingRenamed.l0 k x0 x2 x7 (y314 ++ y317) (wrap64 (x9 + 1))) else (none)))) else (none))) else (none))) else (none)) else (none))) else (numnahlaw06_WettingRenamed.l1 k x0 x2 x7 x8 ([] : List (S48)) 0)
def numnahlaw06_WettingRenamed.l1 : Nat → Int → List Int → List (S48) → List Int → List (S48) → Int → Option (Bool)
 | 0, _, _, _, _, _, _ => none
 | k + 1, x0, x2, x7, x8, x12, x13 => if x13 < (x7.length : Int) then (if 0 ≤ x13 then (if 0 ≤ ((rd_T48 x7 x13).f0) then (if ((rd_T48 x7 x13).f0) < (x8.length : Int) then (if 0 ≤ ((rd_T48 x7 x13).f1) then (if ((rd_T48 x7 x13).f1) < (x8.length : Int) then (if x12.length < 8796093022208 then (numnahlaw06_WettingRenamed.l1 k x0 x2 x7 x8 (x12 ++ [(⟨mn (rd x8 ((rd_T48 x7 x13).f0)) (rd x8 ((rd_T48 x7 x13).f1)), mx (rd x8 ((rd_T48 x7 x13).f0)) (rd x8 ((rd_T48 x7 x13).f1))⟩ : S48)]) (wrap64 (x13 + 1))) else (none)) else (none)) else (none)) else (none)) else (none)) else (none)) else (if (x2.length : Int) > 0 then (if 0 < (x2.length : Int) then (numnahlaw06_WettingRenamed.j2 k x0 x7 x8 x12 (rd x2 0)) else (none)) else (numnahlaw06_WettingRenamed.j2 k x0 x7 x8 x12 0))
def numnahlaw06_WettingRenamed.j2 : Nat → Int → List (S48) → List Int → List (S48) → Int → Option (Bool)
 | 0, _, _, _, _, _ => none
 | k + 1, x0, x7, x8, x12, x16 => (numnahlaw06_some.f k x0 x16).bind fun t332 => (numnahlaw06_WettingRenamed.l2 k x0 x7 x8 x12 x16 t332 0 0)
def numnahlaw06_WettingRenamed.l2 : Nat → Int → List (S48) → List Int → List (S48) → Int → List Int → Int → Int → Option (Bool)
 | 0, _, _, _, _, _, _, _, _ => none
 | k + 1, x0, x7, x8, x12, x16, x17, x18, x19 => if x19 < (x17.length : Int) then (if 0 ≤ x19 then (if 0 ≤ (rd x17 x19) then (if (rd x17 x19) < (x8.length : Int) then (if 0 ≤ (rd x8 (rd x17 x19)) then (numnahlaw06_WettingRenamed.l2 k x0 x7 x8 x12 x16 x17 (Go.bits .or .i64 x18 (shl .i64 1 (rd x8 (rd x17 x19)))) (wrap64 (x19 + 1))) else (none)) else (none)) else (none)) else (none)) else ((wetting_Rounds.f x0 x7 x17).bind fun bt337 => ((numnahref06_List.f k x18).bind fun t341 => ((wetting_Rounds.f x0 x12 t341).bind fun bt344 => ((wetting_Least.f x0 x7).bind fun bt348 => ((wetting_Least.f x0 x12).bind fun bt352 => ((wetting_Forts.f x0 x7).bind fun bt356 => ((wetting_Forts.f x0 x12).bind fun bt360 => ((numnahlaw06_mod.f x16 4).bind fun t364 => ((wetting_Fewest.f x0 x7 (wrap64 (1 + t364))).bind fun bt365 => ((wetting_Fewest.f x0 x12 (wrap64 (1 + t364))).bind fun bt369 => (if bt337.2 = 0 then (if bt344.2 = 0 then (if bt348.2 = 0 then (if bt352.2 = 0 then (if bt356.2 = 0 then (if bt360.2 = 0 then (if bt365.2 = 0 then (if bt369.2 = 0 then (if (bt337.1.length : Int) = x0 then (numnahlaw06_WettingRenamed.j4 k x0 x8 bt337.1 bt344.1 bt348.1 bt352.1 bt356.1 bt360.1 bt365.1 bt369.1 ((bt344.1.length : Int) != x0)) else (numnahlaw06_WettingRenamed.j4 k x0 x8 bt337.1 bt344.1 bt348.1 bt352.1 bt356.1 bt360.1 bt365.1 bt369.1 true)) else (numnahlaw06_WettingRenamed.j4 k x0 x8 bt337.1 bt344.1 bt348.1 bt352.1 bt356.1 bt360.1 bt365.1 bt369.1 true)) else (numnahlaw06_WettingRenamed.j4 k x0 x8 bt337.1 bt344.1 bt348.1 bt352.1 bt356.1 bt360.1 bt365.1 bt369.1 true)) else (numnahlaw06_WettingRenamed.j4 k x0 x8 bt337.1 bt344.1 bt348.1 bt352.1 bt356.1 bt360.1 bt365.1 bt369.1 true)) else (numnahlaw06_WettingRenamed.j4 k x0 x8 bt337.1 bt344.1 bt348.1 bt352.1 bt356.1 bt360.1 bt365.1 bt369.1 true)) else (numnahlaw06_WettingRenamed.j4 k x0 x8 bt337.1 bt344.1 bt348.1 bt352.1 bt356.1 bt360.1 bt365.1 bt369.1 true)) else (numnahlaw06_WettingRenamed.j4 k x0 x8 bt337.1 bt344.1 bt348.1 bt352.1 bt356.1 bt360.1 bt365.1 bt369.1 true)) else (numnahlaw06_WettingRenamed.j4 k x0 x8 bt337.1 bt344.1 bt348.1 bt352.1 bt356.1 bt360.1 bt365.1 bt369.1 true)) else (numnahlaw06_WettingRenamed.j4 k x0 x8 bt337.1 bt344.1 bt348.1 bt352.1 bt356.1 bt360.1 bt365.1 bt369.1 true))))))))))))
def numnahlaw06_WettingRenamed.j4 : Nat → Int → List Int → List Int → List Int → List Int → List Int → List (List Int) → List (List Int) → List Int → List Int → Bool → Option (Bool)
 | 0, _, _, _, _, _, _, _, _, _, _, _ => none
 | k + 1, x0, x8, x20, x22, x24, x26, x28, x30, x33, x35, x231 => if x231 = true then (some false) else (numnahlaw06_WettingRenamed.l3 k x0 x8 x20 x22 x24 x26 x28 x30 x33 x35 0)
def numnahlaw06_WettingRenamed.l3 : Nat → Int → List Int → List Int → List Int → List Int → List Int → List (List Int) → List (List Int) → List Int → List Int → Int → Option (Bool)
 | 0, _, _, _, _, _, _, _, _, _, _, _ => none
 | k + 1, x0, x8, x20, x22, x24, x26, x28, x30, x33, x35, x37 => if x37 < x0 then (if 0 ≤ x37 then (if x37 < (x20.length : Int) then (if x37 < (x8.length : Int) then (if 0 ≤ (rd x8 x37) then (if (rd x8 x37) < (x22.length : Int) then (if (rd x20 x37) = (rd x22 (rd x8 x37)) then (numnahlaw06_WettingRenamed.l3 k x0 x8 x20 x22 x24 x26 x28 x30 x33 x35 (wrap64 (x37 + 1))) else (some false)) else (none)) else (none)) else (none)) else (none)) else (none)) else (if (x24.length : Int) = (x26.length : Int) then (if (x28.length : Int) = (x30.length : Int) then (if (x33.length : Int) = (x35.length : Int) then ((numnahlaw06_awake.f).bind fun t376 => (some t376)) else (some false)) else (some false)) else (some false))
end
def numnahlaw06_WettingRenamed.f (k : Nat) (a0 : Int) (l1 : List (S48)) (l2 : List Int) : Option (Bool) := (numnahlaw06_tame.f k a0 l1).bind fun bt284 => (numnahlaw06_WettingRenamed.l0 k bt284.1 l2 bt284.2 ([] : List Int) 0)
theorem numnahlaw06_WettingRenamed.mono_l : ∀ k, (∀ y0 y1 y2 y3 y4, LeO (numnahlaw06_WettingRenamed.l0 k y0 y1 y2 y3 y4) (numnahlaw06_WettingRenamed.l0 (k + 1) y0 y1 y2 y3 y4)) ∧ (∀ y0 y1 y2 y3 y4 y5, LeO (numnahlaw06_WettingRenamed.l1 k y0 y1 y2 y3 y4 y5) (numnahlaw06_WettingRenamed.l1 (k + 1) y0 y1 y2 y3 y4 y5)) ∧ (∀ y0 y1 y2 y3 y4, LeO (numnahlaw06_WettingRenamed.j2 k y0 y1 y2 y3 y4) (numnahlaw06_WettingRenamed.j2 (k + 1) y0 y1 y2 y3 y4)) ∧ (∀ y0 y1 y2 y3 y4 y5 y6 y7, LeO (numnahlaw06_WettingRenamed.l2 k y0 y1 y2 y3 y4 y5 y6 y7) (numnahlaw06_WettingRenamed.l2 (k + 1) y0 y1 y2 y3 y4 y5 y6 y7)) ∧ (∀ y0 y1 y2 y3 y4 y5 y6 y7 y8 y9 y10, LeO (numnahlaw06_WettingRenamed.j4 k y0 y1 y2 y3 y4 y5 y6 y7 y8 y9 y10) (numnahlaw06_WettingRenamed.j4 (k + 1) y0 y1 y2 y3 y4 y5 y6 y7 y8 y9 y10)) ∧ (∀ y0 y1 y2 y3 y4 y5 y6 y7 y8 y9 y10, LeO (numnahlaw06_WettingRenamed.l3 k y0 y1 y2 y3 y4 y5 y6 y7 y8 y9 y10) (numnahlaw06_WettingRenamed.l3 (k + 1) y0 y1 y2 y3 y4 y5 y6 y7 y8 y9 y10))
 | 0 => ⟨fun _ _ _ _ _ r h => by simp [numnahlaw06_WettingRenamed.l0] at h, fun _ _ _ _ _ _ r h => by simp [numnahlaw06_WettingRenamed.l1] at h, fun _ _ _ _ _ r h => by simp [numnahlaw06_WettingRenamed.j2] at h, fun _ _ _ _ _ _ _ _ r h => by simp [numnahlaw06_WettingRenamed.l2] at h, fun _ _ _ _ _ _ _ _ _ _ _ r h => by simp [numnahlaw06_WettingRenamed.j4] at h, fun _ _ _ _ _ _ _ _ _ _ _ r h => by simp [numnahlaw06_WettingRenamed.l3] at h⟩
 | k + 1 => by
  obtain ⟨ih0, ih1, ih2, ih3, ih4, ih5⟩ := numnahlaw06_WettingRenamed.mono_l k
  refine ⟨?_, ?_, ?_, ?_, ?_, ?_⟩
  ·intro y0 y1 y2 y3 y4
   unfold numnahlaw06_WettingRenamed.l0
   repeat' first
   | (with_reducible exact ih0 _ _ _ _ _)
   | (with_reducible exact ih1 _ _ _ _ _ _)
   | (with_reducible exact ih2 _ _ _ _ _)
   | (with_reducible exact ih3 _ _ _ _ _ _ _ _)
   | (with_reducible exact ih4 _ _ _ _ _ _ _ _ _ _ _)
   | (with_reducible exact ih5 _ _ _ _ _ _ _ _ _ _ _)
   | (with_reducible exact numnahlaw06_some.mono _ _ _)
   | (with_reducible exact numnahlaw06_tame.mono _ _ _)
   | (with_reducible exact numnahref06_List.mono _ _)
   | (with_reducible exact LeO.refl _)
   | (with_reducible exact LeO.none _)
   | (with_reducible refine LeO.ite ?_ ?_)
   | (with_reducible refine LeO.bind ?_ (fun _ => ?_))
   | exact ih0 _ _ _ _ _
   | exact ih1 _ _ _ _ _ _
   | exact ih2 _ _ _ _ _
   | exact ih3 _ _ _ _ _ _ _ _
   | exact ih4 _ _ _ _ _ _ _ _ _ _ _
   | exact ih5 _ _ _ _ _ _ _ _ _ _ _
   | exact numnahlaw06_some.mono _ _ _
   | exact numnahlaw06_tame.mono _ _ _
   | exact numnahref06_List.mono _ _
   | exact LeO.none _
   | refine LeO.ite ?_ ?_
   | refine LeO.bind ?_ (fun _ => ?_)
  ·intro y0 y1 y2 y3 y4 y5
   unfold numnahlaw06_WettingRenamed.l1
   repeat' first
   | (with_reducible exact ih0 _ _ _ _ _)
   | (with_reducible exact ih1 _ _ _ _ _ _)
   | (with_reducible exact ih2 _ _ _ _ _)
   | (with_reducible exact ih3 _ _ _ _ _ _ _ _)
   | (with_reducible exact ih4 _ _ _ _ _ _ _ _ _ _ _)
   | (with_reducible exact ih5 _ _ _ _ _ _ _ _ _ _ _)
   | (with_reducible exact numnahlaw06_some.mono _ _ _)
   | (with_reducible exact numnahlaw06_tame.mono _ _ _)
   | (with_reducible exact numnahref06_List.mono _ _)
   | (with_reducible exact LeO.refl _)
   | (with_reducible exact LeO.none _)
   | (with_reducible refine LeO.ite ?_ ?_)
   | (with_reducible refine LeO.bind ?_ (fun _ => ?_))
   | exact ih0 _ _ _ _ _
   | exact ih1 _ _ _ _ _ _
   | exact ih2 _ _ _ _ _
   | exact ih3 _ _ _ _ _ _ _ _
   | exact ih4 _ _ _ _ _ _ _ _ _ _ _
   | exact ih5 _ _ _ _ _ _ _ _ _ _ _
   | exact numnahlaw06_some.mono _ _ _
   | exact numnahlaw06_tame.mono _ _ _
   | exact numnahref06_List.mono _ _
   | exact LeO.none _
   | refine LeO.ite ?_ ?_
   | refine LeO.bind ?_ (fun _ => ?_)
  ·intro y0 y1 y2 y3 y4
   unfold numnahlaw06_WettingRenamed.j2
   repeat' first
   | (with_reducible exact ih0 _ _ _ _ _)
   | (with_reducible exact ih1 _ _ _ _ _ _)
   | (with_reducible exact ih2 _ _ _ _ _)
   | (with_reducible exact ih3 _ _ _ _ _ _ _ _)
   | (with_reducible exact ih4 _ _ _ _ _ _ _ _ _ _ _)
   | (with_reducible exact ih5 _ _ _ _ _ _ _ _ _ _ _)
   | (with_reducible exact numnahlaw06_some.mono _ _ _)
   | (with_reducible exact numnahlaw06_tame.mono _ _ _)
   | (with_reducible exact numnahref06_List.mono _ _)
   | (with_reducible exact LeO.refl _)
   | (with_reducible exact LeO.none _)
   | (with_reducible refine LeO.ite ?_ ?_)
   | (with_reducible refine LeO.bind ?_ (fun _ => ?_))
   | exact ih0 _ _ _ _ _
   | exact ih1 _ _ _ _ _ _
   | exact ih2 _ _ _ _ _
   | exact ih3 _ _ _ _ _ _ _ _
   | exact ih4 _ _ _ _ _ _ _ _ _ _ _
   | exact ih5 _ _ _ _ _ _ _ _ _ _ _
   | exact numnahlaw06_some.mono _ _ _
   | exact numnahlaw06_tame.mono _ _ _
   | exact numnahref06_List.mono _ _
   | exact LeO.none _
   | refine LeO.ite ?_ ?_
   | refine LeO.bind ?_ (fun _ => ?_)
  ·intro y0 y1 y2 y3 y4 y5 y6 y7
   unfold numnahlaw06_WettingRenamed.l2
   repeat' first
   | (with_reducible exact ih0 _ _ _ _ _)
   | (with_reducible exact ih1 _ _ _ _ _ _)
   | (with_reducible exact ih2 _ _ _ _ _)
   | (with_reducible exact ih3 _ _ _ _ _ _ _ _)
   | (with_reducible exact ih4 _ _ _ _ _ _ _ _ _ _ _)
   | (with_reducible exact ih5 _ _ _ _ _ _ _ _ _ _ _)
   | (with_reducible exact numnahlaw06_some.mono _ _ _)
   | (with_reducible exact numnahlaw06_tame.mono _ _ _)
   | (with_reducible exact numnahref06_List.mono _ _)
   | (with_reducible exact LeO.refl _)
   | (with_reducible exact LeO.none _)
   | (with_reducible refine LeO.ite ?_ ?_)
   | (with_reducible refine LeO.bind ?_ (fun _ => ?_))
   | exact ih0 _ _ _ _ _
   | exact ih1 _ _ _ _ _ _
   | exact ih2 _ _ _ _ _
   | exact ih3 _ _ _ _ _ _ _ _
   | exact ih4 _ _ _ _ _ _ _ _ _ _ _
   | exact ih5 _ _ _ _ _ _ _ _ _ _ _
   | exact numnahlaw06_some.mono _ _ _
   | exact numnahlaw06_tame.mono _ _ _
   | exact numnahref06_List.mono _ _
   | exact LeO.none _
   | refine LeO.ite ?_ ?_
   | refine LeO.bind ?_ (fun _ => ?_)
  ·intro y0 y1 y2 y3 y4 y5 y6 y7 y8 y9 y10
   unfold numnahlaw06_WettingRenamed.j4
   repeat' first
   | (with_reducible exact ih0 _ _ _ _ _)
   | (with_reducible exact ih1 _ _ _ _ _ _)
   | (with_reducible exact ih2 _ _ _ _ _)
   | (with_reducible exact ih3 _ _ _ _ _ _ _ _)
   | (with_reducible exact ih4 _ _ _ _ _ _ _ _ _ _ _)
   | (with_reducible exact ih5 _ _ _ _ _ _ _ _ _ _ _)
   | (with_reducible exact numnahlaw06_some.mono _ _ _)
   | (with_reducible exact numnahlaw06_tame.mono _ _ _)
   | (with_reducible exact numnahref06_List.mono _ _)
   | (with_reducible exact LeO.refl _)
   | (with_reducible exact LeO.none _)
   | (with_reducible refine LeO.ite ?_ ?_)
   | (with_reducible refine LeO.bind ?_ (fun _ => ?_))
   | exact ih0 _ _ _ _ _
   | exact ih1 _ _ _ _ _ _
   | exact ih2 _ _ _ _ _
   | exact ih3 _ _ _ _ _ _ _ _
   | exact ih4 _ _ _ _ _ _ _ _ _ _ _
   | exact ih5 _ _ _ _ _ _ _ _ _ _ _
   | exact numnahlaw06_some.mono _ _ _
   | exact numnahlaw06_tame.mono _ _ _
   | exact numnahref06_List.mono _ _
   | exact LeO.none _
   | refine LeO.ite ?_ ?_
   | refine LeO.bind ?_ (fun _ => ?_)
  ·intro y0 y1 y2 y3 y4 y5 y6 y7 y8 y9 y10
   unfold numnahlaw06_WettingRenamed.l3
   repeat' first
   | (with_reducible exact ih0 _ _ _ _ _)
   | (with_reducible exact ih1 _ _ _ _ _ _)
   | (with_reducible exact ih2 _ _ _ _ _)
   | (with_reducible exact ih3 _ _ _ _ _ _ _ _)
   | (with_reducible exact ih4 _ _ _ _ _ _ _ _ _ _ _)
   | (with_reducible exact ih5 _ _ _ _ _ _ _ _ _ _ _)
   | (with_reducible exact numnahlaw06_some.mono _ _ _)
   | (with_reducible exact numnahlaw06_tame.mono _ _ _)
   | (with_reducible exact numnahref06_List.mono _ _)
   | (with_reducible exact LeO.refl _)
   | (with_reducible exact LeO.none _)
   | (with_reducible refine LeO.ite ?_ ?_)
   | (with_reducible refine LeO.bind ?_ (fun _ => ?_))
   | exact ih0 _ _ _ _ _
   | exact ih1 _ _ _ _ _ _
   | exact ih2 _ _ _ _ _
   | exact ih3 _ _ _ _ _ _ _ _
   | exact ih4 _ _ _ _ _ _ _ _ _ _ _
   | exact ih5 _ _ _ _ _ _ _ _ _ _ _
   | exact numnahlaw06_some.mono _ _ _
   | exact numnahlaw06_tame.mono _ _ _
   | exact numnahref06_List.mono _ _
   | exact LeO.none _
   | refine LeO.ite ?_ ?_
   | refine LeO.bind ?_ (fun _ => ?_)
theorem numnahlaw06_WettingRenamed.mono : ∀ a0 a1 a2 k, LeO (numnahlaw06_WettingRenamed.f k a0 a1 a2) (numnahlaw06_WettingRenamed.f (k + 1) a0 a1 a2) := by
 intro a0 a1 a2 k
 obtain ⟨ih0, ih1, ih2, ih3, ih4, ih5⟩ := numnahlaw06_WettingRenamed.mono_l k
 unfold numnahlaw06_WettingRenamed.f
 repeat' first
   | (with_reducible exact ih0 _ _ _ _ _)
   | (with_reducible exact ih1 _ _ _ _ _ _)
   | (with_reducible exact ih2 _ _ _ _ _)
   | (with_reducible exact ih3 _ _ _ _ _ _ _ _)
   | (with_reducible exact ih4 _ _ _ _ _ _ _ _ _ _ _)
   | (with_reducible exact ih5 _ _ _ _ _ _ _ _ _ _ _)
   | (with_reducible exact numnahlaw06_some.mono _ _ _)
   | (with_reducible exact numnahlaw06_tame.mono _ _ _)
   | (with_reducible exact numnahref06_List.mono _ _)
   | (with_reducible exact LeO.refl _)
   | (with_reducible exact LeO.none _)
   | (with_reducible refine LeO.ite ?_ ?_)
   | (with_reducible refine LeO.bind ?_ (fun _ => ?_))
   | exact ih0 _ _ _ _ _
   | exact ih1 _ _ _ _ _ _
   | exact ih2 _ _ _ _ _
   | exact ih3 _ _ _ _ _ _ _ _
   | exact ih4 _ _ _ _ _ _ _ _ _ _ _
   | exact ih5 _ _ _ _ _ _ _ _ _ _ _
   | exact numnahlaw06_some.mono _ _ _
   | exact numnahlaw06_tame.mono _ _ _
   | exact numnahref06_List.mono _ _
   | exact LeO.none _
   | refine LeO.ite ?_ ?_
   | refine LeO.bind ?_ (fun _ => ?_)
set_option maxHeartbeats 8000000 in
set_option maxRecDepth 100000 in
theorem numnahlaw06_WettingRenamed.calls (k : Nat) (a0 : Int) (A1 : Option Addr) (c1 : Nat) (l1 : List (S48)) (A2 : Option Addr) (c2 : Nat) (l2 : List Int) (r : Bool) (w : World) (hr1 : Kd.C k48 w A1 l1.length l1) (hc1 : l1.length ≤ c1) (hr2 : Kd.C (Kd.int .i64) w A2 l2.length l2) (hc2 : l2.length ≤ c2) (h : numnahlaw06_WettingRenamed.f k a0 l1 l2 = some r) (hT : Tab w) :
  Calls Tryd.prog 5 #[.int .i64 a0, .slice A1 l1.length c1, .slice A2 l2.length c2] w fun e w' => e = .returned (.bool r) ∧ Below w.heap.size w w' := by
 have HT := Aside0.mk hT
 clear hT
 have hu48 := Tryd.underlying48
 have HR1 := Aside0.mk hr1
 have HC1 := Aside0.mk hc1
 clear hr1 hc1
 have HR2 := Aside0.mk hr2
 have HC2 := Aside0.mk hc2
 clear hr2 hc2
 have HB := Aside0.mk (Below.refl w.heap.size w)
 have H : ((numnahlaw06_tame.f k a0 l1).bind fun bt284 => (numnahlaw06_WettingRenamed.l0 k bt284.1 l2 bt284.2 ([] : List Int) 0)) = some r := h
 clear h
 replace H := Option.bind_eq_some_iff.mp H
 obtain ⟨⟨t284, t285⟩, A40, H⟩ := H
 replace H : (numnahlaw06_WettingRenamed.l0 k t284 l2 t285 ([] : List Int) 0) = some r := H
 have A4 := Aside0.mk A40
 clear A40
 have H' := Aside0.mk H
 clear H
 go_enter Tryd.func5, Tryd.ntmps5
 go_wp2_with (first | (go_at_call 27; (with_reducible refine (numnahlaw06_tame.calls k a0 _ _ l1 t284 t285 _ ?side1 ?side2 A4.out).mono ?_); (case side1 => repeat (first | exact HR1.out | (with_reducible refine Kd.C_alloc ?_ _) | (with_reducible refine Kd.C_drewN ?_ _) | (with_reducible refine Kd.C_drew ?_))); (case side2 => exact HC1.out); rintro e w5 ⟨v286, rfl, ho0, hb⟩; have n0_ := Aside0.mk (Kd.R_lower ho0 (below_size (by repeat (first | (with_reducible first | exact HB.out | apply below_alloc | apply pw_below_drewN | apply below_drew1) | exact HB.out)))); have n1_ := Aside0.mk (below_step (by repeat (first | (with_reducible first | exact HB.out | apply below_alloc | apply pw_below_drewN | apply below_drew1) | exact HB.out)) hb); clear HB; have HO287 := n0_; have HB := n1_; clear n0_ n1_; (try clear hb); (try clear hb2); (try clear hk); (try clear hi); (try clear ho0)))
 go_loopg [8, 9] k (fun kq v8 v9 w' => ∃ (x8_1 : List Int) (x9_1 : Int), v9 = .int .i64 x9_1 ∧ Aside0 (numnahlaw06_WettingRenamed.l0 kq t284 l2 t285 x8_1 x9_1 = some r) ∧ Aside0 (kq ≤ k) ∧ Aside0 (Kd.R k48 48 w' w.heap.size (fun _ => True) v286 t285) ∧ Aside0 (Kd.R (Kd.int .i64) 3 w' w.heap.size (fun _ => True) v8 x8_1) ∧ Aside0 (Below w.heap.size w w'))
 case atStart => exact ⟨(([] : List Int)), (0), (by first | rfl | (simp; done) | (simp [*]; done)), H', ⟨Nat.le_refl _⟩, ⟨by (with_reducible repeat (first | apply Kd.R_alloc | apply Kd.R_drewN | apply Kd.R_drew)); exact HO287.out⟩, ⟨by first | exact Kd.R_nil _ _ _ _ _ | exact Kd.N_nil _ _ _ _ _ | exact Kd.V_nil _ _ _ _ _ | exact Kd.Q_nil _ _ _ _ _ | exact Kd.S_nil _ _ _ _ _⟩, ⟨by repeat (first | (with_reducible first | exact HB.out | apply below_alloc | apply pw_below_drewN | apply below_drew1) | exact HB.out)⟩⟩
 case round =>
  clear H'
  try clear c1
  try clear c2
  try clear p2
  try clear c5
  obtain ⟨x8_1, x9_1, rfl, HA, HK1, HO_7, HO_8, HB⟩ := hrel
  cases gk with
  | zero => exact absurd HA.out (by simp [numnahlaw06_WettingRenamed.l0])
  | succ k1 =>
   have H := HA.out
   clear HA
   simp only [numnahlaw06_WettingRenamed.l0] at H
   by_cases c6 : x9_1 < t284
   ·rw [if_pos c6] at H
    have c6b0 : decide (x9_1 < t284) = true := decide_eq_true c6
    clear c6
    by_cases c7 : (wrap64 (x9_1 + 1)) < (l2.length : Int)
    ·rw [if_pos c7] at H
     have c7b0 : decide ((wrap64 (x9_1 + 1)) < (l2.length : Int)) = true := decide_eq_true c7
     clear c7
     obtain ⟨ji8, hji8⟩ : ∃ j_ : Int, (wrap64 (x9_1 + 1)) = j_ := ⟨_, rfl⟩
     replace H : (if 0 ≤ (ji8) then ((numnahlaw06_mod.f (rd l2 (ji8)) (ji8)).bind fun t289 => (if 0 ≤ t289 then (if t289 ≤ (x8_1.length : Int) then ((some (x8_1.take (t289 : Int).toNat : List Int)).bind fun y290 => (if ([] : List Int).length + y290.length < 17592186044416 then ((some (([] : List Int) ++ y290 : List Int)).bind fun y294 => (if y294.length < 17592186044416 then ((some (y294 ++ [x9_1] : List Int)).bind fun y297 => ((some (x8_1.drop (t289 : Int).toNat : List Int)).bind fun y300 => (if y297.length + y300.length < 17592186044416 then (numnahlaw06_WettingRenamed.l0 k1 t284 l2 t285 (y297 ++ y300) ji8) else (none)))) else (none))) else (none))) else (none)) else (none))) else (none)) = some r := by first | (rw [hji8] at H; exact H) | (simp only [hji8] at H ⊢; exact H)
     (try rw [hji8] at c7b0)
     have hji8w : (IntKind.i64.wrap (x9_1 + 1)) = ji8 := (i64_w _).trans hji8
     by_cases c9 : 0 ≤ (ji8)
     ·rw [if_pos c9] at H
      have c9b0 : decide (0 ≤ (ji8)) = true := decide_eq_true c9
      clear c9
      replace H := Option.bind_eq_some_iff.mp H
      obtain ⟨t289, A100, H⟩ := H
      replace H : (if 0 ≤ t289 then (if t289 ≤ (x8_1.length : Int) then ((some (x8_1.take (t289 : Int).toNat : List Int)).bind fun y290 => (if ([] : List Int).length + y290.length < 17592186044416 then ((some (([] : List Int) ++ y290 : List Int)).bind fun y294 => (if y294.length < 17592186044416 then ((some (y294 ++ [x9_1] : List Int)).bind fun y297 => ((some (x8_1.drop (t289 : Int).toNat : List Int)).bind fun y300 => (if y297.length + y300.length < 17592186044416 then (numnahlaw06_WettingRenamed.l0 k1 t284 l2 t285 (y297 ++ y300) ji8) else (none)))) else (none))) else (none))) else (none)) else (none)) = some r := H
      have A10 := Aside0.mk A100
      clear A100
      by_cases c11 : 0 ≤ t289
      ·rw [if_pos c11] at H
       have c11b0 := eq_true c11
       have c11b1 : decide (0 ≤ t289) = true := decide_eq_true c11
       clear c11
       by_cases c12 : t289 ≤ (x8_1.length : Int)
       ·rw [if_pos c12] at H
        have c12b0 := eq_true c12
        have c12b1 : decide (t289 ≤ (x8_1.length : Int)) = true := decide_eq_true c12
        clear c12
        obtain ⟨y290, hy290⟩ : ∃ y_ : List Int, y_ = (x8_1.take (t289 : Int).toNat) := ⟨_, rfl⟩
        replace H : (if ([] : List Int).length + y290.length < 17592186044416 then ((some (([] : List Int) ++ y290 : List Int)).bind fun y294 => (if y294.length < 17592186044416 then ((some (y294 ++ [x9_1] : List Int)).bind fun y297 => ((some (x8_1.drop (t289 : Int).toNat : List Int)).bind fun y300 => (if y297.length + y300.length < 17592186044416 then (numnahlaw06_WettingRenamed.l0 k1 t284 l2 t285 (y297 ++ y300) ji8) else (none)))) else (none))) else (none)) = some r := by first | (rw [hy290]; with_reducible exact H) | (have H2_ := (Option.bind_some _ _).symm.trans H; rw [hy290]; with_reducible exact H2_) | (have H2_ := (Option.bind_some _ _).symm.trans H; with_reducible exact H2_) | with_reducible exact H | (rw [hy290]; exact H) | exact H
        have Ny290 := Aside0.mk hy290
        clear hy290
        by_cases c13 : ([] : List Int).length + y290.length < 17592186044416
        ·rw [if_pos c13] at H
         have LMc13 := Aside0.mk c13
         clear c13
         obtain ⟨y294, hy294⟩ : ∃ y_ : List Int, y_ = (([] : List Int) ++ y290) := ⟨_, rfl⟩
         replace H : (if y294.length < 17592186044416 then ((some (y294 ++ [x9_1] : List Int)).bind fun y297 => ((some (x8_1.drop (t289 : Int).toNat : List Int)).bind fun y300 => (if y297.length + y300.length < 17592186044416 then (numnahlaw06_WettingRenamed.l0 k1 t284 l2 t285 (y297 ++ y300) ji8) else (none)))) else (none)) = some r := by first | (rw [hy294]; with_reducible exact H) | (have H2_ := (Option.bind_some _ _).symm.trans H; rw [hy294]; with_reducible exact H2_) | (have H2_ := (Option.bind_some _ _).symm.trans H; with_reducible exact H2_) | with_reducible exact H | (rw [hy294]; exact H) | exact H
         have Ny294 := Aside0.mk hy294
         clear hy294
         by_cases c14 : y294.length < 17592186044416
         ·rw [if_pos c14] at H
          have LMc14 := Aside0.mk c14
          clear c14
          obtain ⟨y297, hy297⟩ : ∃ y_ : List Int, y_ = (y294 ++ [x9_1]) := ⟨_, rfl⟩
          replace H : ((some (x8_1.drop (t289 : Int).toNat : List Int)).bind fun y300 => (if y297.length + y300.length < 17592186044416 then (numnahlaw06_WettingRenamed.l0 k1 t284 l2 t285 (y297 ++ y300) ji8) else (none))) = some r := by first | (rw [hy297]; with_reducible exact H) | (have H2_ := (Option.bind_some _ _).symm.trans H; rw [hy297]; with_reducible exact H2_) | (have H2_ := (Option.bind_some _ _).symm.trans H; with_reducible exact H2_) | with_reducible exact H | (rw [hy297]; exact H) | exact H
          have Ny297 := Aside0.mk hy297
          clear hy297
          have c15b0 := eq_true (of_decide_eq_true (by first | (with_reducible assumption) | assumption) : 0 ≤ t289)
          have c16b0 := eq_true (of_decide_eq_true (by first | (with_reducible assumption) | assumption) : t289 ≤ (x8_1.length : Int))
          obtain ⟨y300, hy300⟩ : ∃ y_ : List Int, y_ = (x8_1.drop (t289 : Int).toNat) := ⟨_, rfl⟩
          replace H : (if y297.length + y300.length < 17592186044416 then (numnahlaw06_WettingRenamed.l0 k1 t284 l2 t285 (y297 ++ y300) ji8) else (none)) = some r := by first | (rw [hy300]; with_reducible exact H) | (have H2_ := (Option.bind_some _ _).symm.trans H; rw [hy300]; with_reducible exact H2_) | (have H2_ := (Option.bind_some _ _).symm.trans H; with_reducible exact H2_) | with_reducible exact H | (rw [hy300]; exact H) | exact H
          have Ny300 := Aside0.mk hy300
          clear hy300
          by_cases c17 : y297.length + y300.length < 17592186044416
          ·rw [if_pos c17] at H
           have LMc17 := Aside0.mk c17
           clear c17
           obtain ⟨y304, hy304⟩ : ∃ y_ : List Int, y_ = (y297 ++ y300) := ⟨_, rfl⟩
           replace H : (numnahlaw06_WettingRenamed.l0 k1 t284 l2 t285 y304 ji8) = some r := by first | (rw [hy304]; with_reducible exact H) | (have H2_ := (Option.bind_some _ _).symm.trans H; rw [hy304]; with_reducible exact H2_) | (have H2_ := (Option.bind_some _ _).symm.trans H; with_reducible exact H2_) | with_reducible exact H | (rw [hy304]; exact H) | exact H
           have Ny304 := Aside0.mk hy304
           clear hy304
           have H' := Aside0.mk H
           clear H
           have p288 : 0 ≤ ((ji8) : Int) := of_decide_eq_true (by first | (with_reducible assumption) | assumption)
           have q288 : (ji8) < (l2.length : Int) := of_decide_eq_true (by first | (with_reducible assumption) | assumption)
           obtain ⟨ad288, e288, hx288_0⟩ := Kd.at_int HR2.out (ji8) p288 q288
           cases e288
           replace hx288_0 := (HB.out.cell (World.block_lt_of_cell? w _ hx288_0)).trans hx288_0
           replace p288 := eq_true p288
           replace q288 := eq_true q288
           go_wp2_with (first | (go_at_call 33; (with_reducible refine (numnahlaw06_mod.calls (rd l2 (ji8)) ji8 t289 _ A10.out).mono ?_); rintro e w' ⟨rfl, ⟨nd, rfl⟩⟩; (try first | exact ⟨rfl, _, World.drewN_drewN _ _ _⟩ | exact ⟨rfl, _, Eq.trans (World.drewN_drewN _ _ _) (congrArg (World.drewN _) (Nat.add_assoc _ _ _))⟩); obtain ⟨Ao19, co19, eo19⟩ := Kd.R_slice HO_8.out; subst eo19; have q18 : (t289 : Int) ≤ ((x8_1.length : Int) : Int) := of_decide_eq_true (by first | (with_reducible assumption) | assumption); obtain ⟨i018, hi018, _, hsz18, _⟩ := info_parts info3; have hroom18 : x8_1.length ≤ co19 := (Kd.R_reads' HO_8.out).2.1; have hC18 : Kd.C (Kd.int .i64) _ Ao19 x8_1.length x8_1 := (Kd.R_reads' HO_8.out).2.2; have hcut18 := cut_to (P := Tryd.prog) 24 3 .i64 Tryd.underlying24 hi018 Ao19 x8_1.length co19 t289 (of_decide_eq_true (by first | (with_reducible assumption) | assumption)) q18 hroom18; have hr18 := Kd.C_take (m := (t289 : Int).toNat) hC18 (by omega); have hy18 : y290.length = (t289 : Int).toNat := (by rw [Ny290.out, List.length_take]; omega); rw [← Ny290.out] at hr18; rw [← hy18] at hcut18; have HR293 := Aside0.mk hr18; have HC293 := Aside0.mk (show y290.length ≤ co19 from by omega); clear hr18 hC18 hroom18 hi018 hsz18; have KY18 := Aside0.mk hy18; clear hy18; have KL18 := Aside0.mk (show (t289 : Int).toNat ≤ x8_1.length from by omega); replace q18 := eq_true q18) | ((with_reducible refine gate_builtin (b := .append) (xs := #[.tmp 63, .tmp 66]) rfl ?_); (try (refine gate_guard (by rfl) ?_; dsimp only)); at_builtin; refine Kd.R_append_rows (Kd.int .i64) (w0 := w) w.heap.size rfl (.tmp 63) (.tmp 66) 24 3 (.int .i64 0) 8 rfl Tryd.underlying24 info3 rfl (by decide) (by omega) (.slice none 0 0) ([] : List Int) y290 _ _ _ (fun k_ => some k_ ≠ (.slice Ao19 x8_1.length co19 : Value).ownBlock) (fun _ => False) rfl rfl ?aO ?aR (fun _ _ h => h) (fun _ h => h.elim) ?aF ?aB ?aS ?aL ?_; (case aR => repeat (first | exact (by repeat (first | (with_reducible exact HR293.out) | (with_reducible refine Kd.C_alloc ?_ _) | (with_reducible refine Kd.C_drewN ?_ _) | (with_reducible refine Kd.C_drew ?_) | exact HR293.out)) | (with_reducible refine Kd.C_alloc ?_ _) | (with_reducible refine Kd.C_drewN ?_ _) | (with_reducible refine Kd.C_drew ?_))); (case aB => exact (by repeat (first | (with_reducible first | exact HB.out | apply below_alloc | apply pw_below_drewN | apply below_drew1) | exact HB.out))); (case aF => exact (fun k_ hk => Kd.fresh' (Kd.R_lt (by (with_reducible repeat (first | apply Kd.R_alloc | apply Kd.R_drewN | apply Kd.R_drew)); exact HO_8.out)) k_ hk)); (case aO => exact ((Kd.R_nil _ _ _ _ (fun k_ => some k_ ≠ (.slice Ao19 x8_1.length co19 : Value).ownBlock)))); (case aS => exact (below_size (by repeat (first | (with_reducible first | exact HB.out | apply below_alloc | apply pw_below_drewN | apply below_drew1) | exact HB.out)))); (case aL => have := LMc13.out; omega); intro v295 w20 ho hb hg hat; rw [← Ny294.out] at ho; have n0_ := Aside0.mk (Kd.R_grown (by (with_reducible repeat (first | apply Kd.R_alloc | apply Kd.R_drewN | apply Kd.R_drew)); exact HO_7.out) hg (fun _ _ => by simp [Value.ownBlock])); have n1_ := Aside0.mk (Kd.R_after (Kd.R_apart_nil (by (with_reducible repeat (first | apply Kd.R_alloc | apply Kd.R_drewN | apply Kd.R_drew)); exact HO_8.out)) hg hat); have n2_ := Aside0.mk (hb); have n3_ := Aside0.mk ((show Kd.C (Kd.int .i64) w20 Ao19 y290.length y290 from by rw [Ny290.out]; exact Kd.C_take (m := (t289 : Int).toNat) ((Kd.R_reads' (Kd.R_after (Kd.R_apart_nil (by (with_reducible repeat (first | apply Kd.R_alloc | apply Kd.R_drewN | apply Kd.R_drew)); exact HO_8.out)) hg hat)).2.2) KL18.out)); have n4_ := Aside0.mk (ho); clear HO_7; clear HO_8; clear HB; clear HR293; have HO_7 := n0_; have HO_8 := n1_; have HB := n2_; have HR293 := n3_; have HO296 := n4_; clear n0_ n1_ n2_ n3_ n4_; clear ho hb hg hat) | ((with_reducible refine gate_builtin (b := .append) (xs := #[.tmp 68, .tmp 70]) rfl ?_); (try (refine gate_guard (by rfl) ?_; dsimp only)); at_builtin; refine Kd.R_append (Kd.int .i64) (w0 := w) w.heap.size rfl (.tmp 68) (.tmp 70) 24 3 (.int .i64 0) 8 rfl Tryd.underlying24 info3 rfl (by decide) (by omega) v295 y294 x9_1 [.int .i64 x9_1] (fun k_ => some k_ ≠ (.slice Ao19 x8_1.length co19 : Value).ownBlock) (fun _ => False) rfl rfl ?aP (fun _ hk => hk.elim) ?aF ?aO ?aB ?aS ?aL ?_; (case aP => exact rfl); (case aB => exact (by repeat (first | (with_reducible first | exact HB.out | apply below_alloc | apply pw_below_drewN | apply below_drew1) | exact HB.out))); (case aF => exact (fun k_ hk => Kd.fresh' (Kd.R_lt (by (with_reducible repeat (first | apply Kd.R_alloc | apply Kd.R_drewN | apply Kd.R_drew)); exact HO_8.out)) k_ hk)); (case aO => exact (by (with_reducible repeat (first | apply Kd.R_alloc | apply Kd.R_drewN | apply Kd.R_drew)); exact HO296.out)); (case aS => exact (below_size (by repeat (first | (with_reducible first | exact HB.out | apply below_alloc | apply pw_below_drewN | apply below_drew1) | exact HB.out)))); (case aL => have := LMc14.out; omega); intro v298 w21 ho hb hg hat; rw [← Ny297.out] at ho; have n0_ := Aside0.mk (Kd.R_over' (by (with_reducible repeat (first | apply Kd.R_alloc | apply Kd.R_drewN | apply Kd.R_drew)); exact HO_7.out) (Kd.R_typed (by (with_reducible repeat (first | apply Kd.R_alloc | apply Kd.R_drewN | apply Kd.R_drew)); exact HO296.out)) (by decide) hg); have n1_ := Aside0.mk (Kd.R_after (ok := (fun _ => True)) (by (with_reducible repeat (first | apply Kd.R_alloc | apply Kd.R_drewN | apply Kd.R_drew)); exact HO_8.out) hg hat); have n2_ := Aside0.mk (hb); have n3_ := Aside0.mk ((show Kd.C (Kd.int .i64) w21 Ao19 y290.length y290 from by rw [Ny290.out]; exact Kd.C_take (m := (t289 : Int).toNat) ((Kd.R_reads' (Kd.R_after (ok := (fun _ => True)) (by (with_reducible repeat (first | apply Kd.R_alloc | apply Kd.R_drewN | apply Kd.R_drew)); exact HO_8.out) hg hat)).2.2) KL18.out)); have n4_ := Aside0.mk (ho); clear HO_7; clear HO_8; clear HB; clear HR293; clear HO296; have HO_7 := n0_; have HO_8 := n1_; have HB := n2_; have HR293 := n3_; have HO299 := n4_; clear n0_ n1_ n2_ n3_ n4_; clear ho hb hg hat; have q22 : (t289 : Int) ≤ ((x8_1.length : Int) : Int) := of_decide_eq_true (by first | (with_reducible assumption) | assumption); obtain ⟨i022, hi022, _, hsz22, _⟩ := info_parts info3; have hroom22 : x8_1.length ≤ co19 := (Kd.R_reads' HO_8.out).2.1; have hC22 : Kd.C (Kd.int .i64) _ Ao19 x8_1.length x8_1 := (Kd.R_reads' HO_8.out).2.2; have q022 : (0 : Int) ≤ (t289 : Int) := of_decide_eq_true (by first | (with_reducible assumption) | assumption); have hcut22 := cut_from (P := Tryd.prog) 24 3 .i64 Tryd.underlying24 hi022 1 hsz22 Ao19 x8_1.length co19 t289 q022 q22; have hr22 := Kd.C_drop (m := (t289 : Int).toNat) (c := co19) hC22 (by omega) hroom22; obtain ⟨A22, hA22⟩ : ∃ A1, A1 = (if co19 = (t289 : Int).toNat then Ao19 else (Ao19 : Option Addr).map (·.add ((t289 : Int).toNat * 1))) := ⟨_, rfl⟩; obtain ⟨c22, hc22⟩ : ∃ c1, c1 = co19 - (t289 : Int).toNat := ⟨_, rfl⟩; have hy22 : y300.length = x8_1.length - (t289 : Int).toNat := (by rw [Ny300.out, List.length_drop] <;> omega); rw [show (x8_1).drop (t289 : Int).toNat = y300 from Ny300.out.symm] at hr22; replace hr22 : Kd.C (Kd.int .i64) _ A22 y300.length y300 := (by rw [hA22]; exact hr22); rw [← hy22, ← hA22, ← hc22] at hcut22; have HR303 := Aside0.mk hr22; have HC303 := Aside0.mk (show y300.length ≤ c22 from by rw [hy22, hc22]; exact Nat.sub_le_sub_right hroom22 _); clear hr22 hC22 hroom22 hi022 hsz22 hc22; have KY22 := Aside0.mk hy22; have KA22 := Aside0.mk hA22; clear hy22 hA22; have KL22 := Aside0.mk (show (t289 : Int).toNat ≤ x8_1.length from by omega); replace q22 := eq_true q22) | ((with_reducible refine gate_builtin (b := .append) (xs := #[.tmp 72, .tmp 75]) rfl ?_); (try (refine gate_guard (by rfl) ?_; dsimp only)); at_builtin; refine Kd.R_append_rows (Kd.int .i64) (w0 := w) w.heap.size rfl (.tmp 72) (.tmp 75) 24 3 (.int .i64 0) 8 rfl Tryd.underlying24 info3 rfl (by decide) (by omega) v298 y297 y300 _ _ _ (fun k_ => some k_ ≠ (.slice Ao19 x8_1.length co19 : Value).ownBlock) (fun _ => False) rfl rfl ?aO ?aR (fun _ _ h => h) (fun _ h => h.elim) ?aF ?aB ?aS ?aL ?_; (case aR => repeat (first | exact (by repeat (first | (with_reducible exact HR303.out) | (with_reducible refine Kd.C_alloc ?_ _) | (with_reducible refine Kd.C_drewN ?_ _) | (with_reducible refine Kd.C_drew ?_) | exact HR303.out)) | (with_reducible refine Kd.C_alloc ?_ _) | (with_reducible refine Kd.C_drewN ?_ _) | (with_reducible refine Kd.C_drew ?_))); (case aB => exact (by repeat (first | (with_reducible first | exact HB.out | apply below_alloc | apply pw_below_drewN | apply below_drew1) | exact HB.out))); (case aF => exact (fun k_ hk => Kd.fresh' (Kd.R_lt (by (with_reducible repeat (first | apply Kd.R_alloc | apply Kd.R_drewN | apply Kd.R_drew)); exact HO_8.out)) k_ hk)); (case aO => exact (by (with_reducible repeat (first | apply Kd.R_alloc | apply Kd.R_drewN | apply Kd.R_drew)); exact HO299.out)); (case aS => exact (below_size (by repeat (first | (with_reducible first | exact HB.out | apply below_alloc | apply pw_below_drewN | apply below_drew1) | exact HB.out)))); (case aL => have := LMc17.out; omega); intro v305 w23 ho hb hg hat; rw [← Ny304.out] at ho; have n0_ := Aside0.mk (Kd.R_over' (by (with_reducible repeat (first | apply Kd.R_alloc | apply Kd.R_drewN | apply Kd.R_drew)); exact HO_7.out) (Kd.R_typed (by (with_reducible repeat (first | apply Kd.R_alloc | apply Kd.R_drewN | apply Kd.R_drew)); exact HO299.out)) (by decide) hg); have n1_ := Aside0.mk (Kd.R_after (ok := (fun _ => True)) (by (with_reducible repeat (first | apply Kd.R_alloc | apply Kd.R_drewN | apply Kd.R_drew)); exact HO_8.out) hg hat); have n2_ := Aside0.mk (hb); have n3_ := Aside0.mk ((show Kd.C (Kd.int .i64) w23 Ao19 y290.length y290 from by rw [Ny290.out]; exact Kd.C_take (m := (t289 : Int).toNat) ((Kd.R_reads' (Kd.R_after (ok := (fun _ => True)) (by (with_reducible repeat (first | apply Kd.R_alloc | apply Kd.R_drewN | apply Kd.R_drew)); exact HO_8.out) hg hat)).2.2) KL18.out)); have n4_ := Aside0.mk ((show Kd.C (Kd.int .i64) w23 A22 y300.length y300 from by rw [Ny300.out, KA22.out]; exact Kd.C_drop (m := (t289 : Int).toNat) (c := co19) ((Kd.R_reads' (Kd.R_after (ok := (fun _ => True)) (by (with_reducible repeat (first | apply Kd.R_alloc | apply Kd.R_drewN | apply Kd.R_drew)); exact HO_8.out) hg hat)).2.2) KL22.out ((Kd.R_reads' (Kd.R_after (ok := (fun _ => True)) (by (with_reducible repeat (first | apply Kd.R_alloc | apply Kd.R_drewN | apply Kd.R_drew)); exact HO_8.out) hg hat)).2.1))); have n5_ := Aside0.mk (ho); clear HO_7; clear HO_8; clear HB; clear HR293; clear HR303; clear HO299; have HO_7 := n0_; have HO_8 := n1_; have HB := n2_; have HR293 := n3_; have HR303 := n4_; have HO306 := n5_; clear n0_ n1_ n2_ n3_ n4_ n5_; clear ho hb hg hat))
           go_roundg k1
           case measure => have := HK1.out; omega
           case rel => exact ⟨(y304), (ji8), (by first | rfl | (simp; done) | (simp only [← hji8] <;> (first | rfl | simp)) | (simp [*]; done)), H', ⟨by have := HK1.out; omega⟩, ⟨by (with_reducible repeat (first | apply Kd.R_alloc | apply Kd.R_drewN | apply Kd.R_drew)); exact HO_7.out⟩, ⟨by (with_reducible repeat (first | apply Kd.R_alloc | apply Kd.R_drewN | apply Kd.R_drew)); exact Kd.R_mono HO306.out (fun _ hk => trivial)⟩, ⟨by repeat (first | (with_reducible first | exact HB.out | apply below_alloc | apply pw_below_drewN | apply below_drew1) | exact HB.out)⟩⟩
          ·rw [if_neg c17] at H
           exact absurd H (by simp)
         ·rw [if_neg c14] at H
          exact absurd H (by simp)
        ·rw [if_neg c13] at H
         exact absurd H (by simp)
       ·rw [if_neg c12] at H
        exact absurd H (by simp)
      ·rw [if_neg c11] at H
       exact absurd H (by simp)
     ·rw [if_neg c9] at H
      exact absurd H (by simp)
    ·rw [if_neg c7] at H
     have c7b0 : decide ((wrap64 (x9_1 + 1)) < (l2.length : Int)) = false := decide_eq_false c7
     clear c7
     by_cases c24 : 0 ≤ x9_1
     ·rw [if_pos c24] at H
      have c24b0 := eq_true c24
      have c24b1 : decide (0 ≤ x9_1) = true := decide_eq_true c24
      clear c24
      by_cases c25 : x9_1 ≤ (x8_1.length : Int)
      ·rw [if_pos c25] at H
       have c25b0 := eq_true c25
       have c25b1 : decide (x9_1 ≤ (x8_1.length : Int)) = true := decide_eq_true c25
       clear c25
       obtain ⟨y307, hy307⟩ : ∃ y_ : List Int, y_ = (x8_1.take (x9_1 : Int).toNat) := ⟨_, rfl⟩
       replace H : (if ([] : List Int).length + y307.length < 17592186044416 then ((some (([] : List Int) ++ y307 : List Int)).bind fun y311 => (if y311.length < 17592186044416 then ((some (y311 ++ [x9_1] : List Int)).bind fun y314 => ((some (x8_1.drop (x9_1 : Int).toNat : List Int)).bind fun y317 => (if y314.length + y317.length < 17592186044416 then (numnahlaw06_WettingRenamed.l0 k1 t284 l2 t285 (y314 ++ y317) (wrap64 (x9_1 + 1))) else (none)))) else (none))) else (none)) = some r := by first | (rw [hy307]; with_reducible exact H) | (have H2_ := (Option.bind_some _ _).symm.trans H; rw [hy307]; with_reducible exact H2_) | (have H2_ := (Option.bind_some _ _).symm.trans H; with_reducible exact H2_) | with_reducible exact H | (rw [hy307]; exact H) | exact H
       have Ny307 := Aside0.mk hy307
       clear hy307
       by_cases c26 : ([] : List Int).length + y307.length < 17592186044416
       ·rw [if_pos c26] at H
        have LMc26 := Aside0.mk c26
        clear c26
        obtain ⟨y311, hy311⟩ : ∃ y_ : List Int, y_ = (([] : List Int) ++ y307) := ⟨_, rfl⟩
        replace H : (if y311.length < 17592186044416 then ((some (y311 ++ [x9_1] : List Int)).bind fun y314 => ((some (x8_1.drop (x9_1 : Int).toNat : List Int)).bind fun y317 => (if y314.length + y317.length < 17592186044416 then (numnahlaw06_WettingRenamed.l0 k1 t284 l2 t285 (y314 ++ y317) (wrap64 (x9_1 + 1))) else (none)))) else (none)) = some r := by first | (rw [hy311]; with_reducible exact H) | (have H2_ := (Option.bind_some _ _).symm.trans H; rw [hy311]; with_reducible exact H2_) | (have H2_ := (Option.bind_some _ _).symm.trans H; with_reducible exact H2_) | with_reducible exact H | (rw [hy311]; exact H) | exact H
        have Ny311 := Aside0.mk hy311
        clear hy311
        by_cases c27 : y311.length < 17592186044416
        ·rw [if_pos c27] at H
         have LMc27 := Aside0.mk c27
         clear c27
         obtain ⟨y314, hy314⟩ : ∃ y_ : List Int, y_ = (y311 ++ [x9_1]) := ⟨_, rfl⟩
         replace H : ((some (x8_1.drop (x9_1 : Int).toNat : List Int)).bind fun y317 => (if y314.length + y317.length < 17592186044416 then (numnahlaw06_WettingRenamed.l0 k1 t284 l2 t285 (y314 ++ y317) (wrap64 (x9_1 + 1))) else (none))) = some r := by first | (rw [hy314]; with_reducible exact H) | (have H2_ := (Option.bind_some _ _).symm.trans H; rw [hy314]; with_reducible exact H2_) | (have H2_ := (Option.bind_some _ _).symm.trans H; with_reducible exact H2_) | with_reducible exact H | (rw [hy314]; exact H) | exact H
         have Ny314 := Aside0.mk hy314
         clear hy314
         have c28b0 := eq_true (of_decide_eq_true (by first | (with_reducible assumption) | assumption) : 0 ≤ x9_1)
         have c29b0 := eq_true (of_decide_eq_true (by first | (with_reducible assumption) | assumption) : x9_1 ≤ (x8_1.length : Int))
         obtain ⟨y317, hy317⟩ : ∃ y_ : List Int, y_ = (x8_1.drop (x9_1 : Int).toNat) := ⟨_, rfl⟩
         replace H : (if y314.length + y317.length < 17592186044416 then (numnahlaw06_WettingRenamed.l0 k1 t284 l2 t285 (y314 ++ y317) (wrap64 (x9_1 + 1))) else (none)) = some r := by first | (rw [hy317]; with_reducible exact H) | (have H2_ := (Option.bind_some _ _).symm.trans H; rw [hy317]; with_reducible exact H2_) | (have H2_ := (Option.bind_some _ _).symm.trans H; with_reducible exact H2_) | with_reducible exact H | (rw [hy317]; exact H) | exact H
         have Ny317 := Aside0.mk hy317
         clear hy317
         by_cases c30 : y314.length + y317.length < 17592186044416
         ·rw [if_pos c30] at H
          have LMc30 := Aside0.mk c30
          clear c30
          obtain ⟨y321, hy321⟩ : ∃ y_ : List Int, y_ = (y314 ++ y317) := ⟨_, rfl⟩
          replace H : (numnahlaw06_WettingRenamed.l0 k1 t284 l2 t285 y321 (wrap64 (x9_1 + 1))) = some r := by first | (rw [hy321]; with_reducible exact H) | (have H2_ := (Option.bind_some _ _).symm.trans H; rw [hy321]; with_reducible exact H2_) | (have H2_ := (Option.bind_some _ _).symm.trans H; with_reducible exact H2_) | with_reducible exact H | (rw [hy321]; exact H) | exact H
          have Ny321 := Aside0.mk hy321
          clear hy321
          have H' := Aside0.mk H
          clear H
          obtain ⟨Ao32, co32, eo32⟩ := Kd.R_slice HO_8.out
          subst eo32
          have q31 : (x9_1 : Int) ≤ ((x8_1.length : Int) : Int) := of_decide_eq_true (by first | (with_reducible assumption) | assumption)
          obtain ⟨i031, hi031, _, hsz31, _⟩ := info_parts info3
          have hroom31 : x8_1.length ≤ co32 := (Kd.R_reads' HO_8.out).2.1
          have hC31 : Kd.C (Kd.int .i64) _ Ao32 x8_1.length x8_1 := (Kd.R_reads' HO_8.out).2.2
          have hcut31 := cut_to (P := Tryd.prog) 24 3 .i64 Tryd.underlying24 hi031 Ao32 x8_1.length co32 x9_1 (of_decide_eq_true (by first | (with_reducible assumption) | assumption)) q31 hroom31
          have hr31 := Kd.C_take (m := (x9_1 : Int).toNat) hC31 (by omega)
          have hy31 : y307.length = (x9_1 : Int).toNat := (by rw [Ny307.out, List.length_take]; omega)
          rw [← Ny307.out] at hr31
          rw [← hy31] at hcut31
          have HR310 := Aside0.mk hr31
          have HC310 := Aside0.mk (show y307.length ≤ co32 from by omega)
          clear hr31 hC31 hroom31 hi031 hsz31
          have KY31 := Aside0.mk hy31
          clear hy31
          have KL31 := Aside0.mk (show (x9_1 : Int).toNat ≤ x8_1.length from by omega)
          replace q31 := eq_true q31
          go_wp2_with (first | ((with_reducible refine gate_builtin (b := .append) (xs := #[.tmp 63, .tmp 66]) rfl ?_); (try (refine gate_guard (by rfl) ?_; dsimp only)); at_builtin; refine Kd.R_append_rows (Kd.int .i64) (w0 := w) w.heap.size rfl (.tmp 63) (.tmp 66) 24 3 (.int .i64 0) 8 rfl Tryd.underlying24 info3 rfl (by decide) (by omega) (.slice none 0 0) ([] : List Int) y307 _ _ _ (fun k_ => some k_ ≠ (.slice Ao32 x8_1.length co32 : Value).ownBlock) (fun _ => False) rfl rfl ?aO ?aR (fun _ _ h => h) (fun _ h => h.elim) ?aF ?aB ?aS ?aL ?_; (case aR => repeat (first | exact (by repeat (first | (with_reducible exact HR310.out) | (with_reducible refine Kd.C_alloc ?_ _) | (with_reducible refine Kd.C_drewN ?_ _) | (with_reducible refine Kd.C_drew ?_) | exact HR310.out)) | (with_reducible refine Kd.C_alloc ?_ _) | (with_reducible refine Kd.C_drewN ?_ _) | (with_reducible refine Kd.C_drew ?_))); (case aB => exact (by repeat (first | (with_reducible first | exact HB.out | apply below_alloc | apply pw_below_drewN | apply below_drew1) | exact HB.out))); (case aF => exact (fun k_ hk => Kd.fresh' (Kd.R_lt (by (with_reducible repeat (first | apply Kd.R_alloc | apply Kd.R_drewN | apply Kd.R_drew)); exact HO_8.out)) k_ hk)); (case aO => exact ((Kd.R_nil _ _ _ _ (fun k_ => some k_ ≠ (.slice Ao32 x8_1.length co32 : Value).ownBlock)))); (case aS => exact (below_size (by repeat (first | (with_reducible first | exact HB.out | apply below_alloc | apply pw_below_drewN | apply below_drew1) | exact HB.out)))); (case aL => have := LMc26.out; omega); intro v312 w33 ho hb hg hat; rw [← Ny311.out] at ho; have n0_ := Aside0.mk (Kd.R_grown (by (with_reducible repeat (first | apply Kd.R_alloc | apply Kd.R_drewN | apply Kd.R_drew)); exact HO_7.out) hg (fun _ _ => by simp [Value.ownBlock])); have n1_ := Aside0.mk (Kd.R_after (Kd.R_apart_nil (by (with_reducible repeat (first | apply Kd.R_alloc | apply Kd.R_drewN | apply Kd.R_drew)); exact HO_8.out)) hg hat); have n2_ := Aside0.mk (hb); have n3_ := Aside0.mk ((show Kd.C (Kd.int .i64) w33 Ao32 y307.length y307 from by rw [Ny307.out]; exact Kd.C_take (m := (x9_1 : Int).toNat) ((Kd.R_reads' (Kd.R_after (Kd.R_apart_nil (by (with_reducible repeat (first | apply Kd.R_alloc | apply Kd.R_drewN | apply Kd.R_drew)); exact HO_8.out)) hg hat)).2.2) KL31.out)); have n4_ := Aside0.mk (ho); clear HO_7; clear HO_8; clear HB; clear HR310; have HO_7 := n0_; have HO_8 := n1_; have HB := n2_; have HR310 := n3_; have HO313 := n4_; clear n0_ n1_ n2_ n3_ n4_; clear ho hb hg hat) | ((with_reducible refine gate_builtin (b := .append) (xs := #[.tmp 68, .tmp 70]) rfl ?_); (try (refine gate_guard (by rfl) ?_; dsimp only)); at_builtin; refine Kd.R_append (Kd.int .i64) (w0 := w) w.heap.size rfl (.tmp 68) (.tmp 70) 24 3 (.int .i64 0) 8 rfl Tryd.underlying24 info3 rfl (by decide) (by omega) v312 y311 x9_1 [.int .i64 x9_1] (fun k_ => some k_ ≠ (.slice Ao32 x8_1.length co32 : Value).ownBlock) (fun _ => False) rfl rfl ?aP (fun _ hk => hk.elim) ?aF ?aO ?aB ?aS ?aL ?_; (case aP => exact rfl); (case aB => exact (by repeat (first | (with_reducible first | exact HB.out | apply below_alloc | apply pw_below_drewN | apply below_drew1) | exact HB.out))); (case aF => exact (fun k_ hk => Kd.fresh' (Kd.R_lt (by (with_reducible repeat (first | apply Kd.R_alloc | apply Kd.R_drewN | apply Kd.R_drew)); exact HO_8.out)) k_ hk)); (case aO => exact (by (with_reducible repeat (first | apply Kd.R_alloc | apply Kd.R_drewN | apply Kd.R_drew)); exact HO313.out)); (case aS => exact (below_size (by repeat (first | (with_reducible first | exact HB.out | apply below_alloc | apply pw_below_drewN | apply below_drew1) | exact HB.out)))); (case aL => have := LMc27.out; omega); intro v315 w34 ho hb hg hat; rw [← Ny314.out] at ho; have n0_ := Aside0.mk (Kd.R_over' (by (with_reducible repeat (first | apply Kd.R_alloc | apply Kd.R_drewN | apply Kd.R_drew)); exact HO_7.out) (Kd.R_typed (by (with_reducible repeat (first | apply Kd.R_alloc | apply Kd.R_drewN | apply Kd.R_drew)); exact HO313.out)) (by decide) hg); have n1_ := Aside0.mk (Kd.R_after (ok := (fun _ => True)) (by (with_reducible repeat (first | apply Kd.R_alloc | apply Kd.R_drewN | apply Kd.R_drew)); exact HO_8.out) hg hat); have n2_ := Aside0.mk (hb); have n3_ := Aside0.mk ((show Kd.C (Kd.int .i64) w34 Ao32 y307.length y307 from by rw [Ny307.out]; exact Kd.C_take (m := (x9_1 : Int).toNat) ((Kd.R_reads' (Kd.R_after (ok := (fun _ => True)) (by (with_reducible repeat (first | apply Kd.R_alloc | apply Kd.R_drewN | apply Kd.R_drew)); exact HO_8.out) hg hat)).2.2) KL31.out)); have n4_ := Aside0.mk (ho); clear HO_7; clear HO_8; clear HB; clear HR310; clear HO313; have HO_7 := n0_; have HO_8 := n1_; have HB := n2_; have HR310 := n3_; have HO316 := n4_; clear n0_ n1_ n2_ n3_ n4_; clear ho hb hg hat; have q35 : (x9_1 : Int) ≤ ((x8_1.length : Int) : Int) := of_decide_eq_true (by first | (with_reducible assumption) | assumption); obtain ⟨i035, hi035, _, hsz35, _⟩ := info_parts info3; have hroom35 : x8_1.length ≤ co32 := (Kd.R_reads' HO_8.out).2.1; have hC35 : Kd.C (Kd.int .i64) _ Ao32 x8_1.length x8_1 := (Kd.R_reads' HO_8.out).2.2; have q035 : (0 : Int) ≤ (x9_1 : Int) := of_decide_eq_true (by first | (with_reducible assumption) | assumption); have hcut35 := cut_from (P := Tryd.prog) 24 3 .i64 Tryd.underlying24 hi035 1 hsz35 Ao32 x8_1.length co32 x9_1 q035 q35; have hr35 := Kd.C_drop (m := (x9_1 : Int).toNat) (c := co32) hC35 (by omega) hroom35; obtain ⟨A35, hA35⟩ : ∃ A1, A1 = (if co32 = (x9_1 : Int).toNat then Ao32 else (Ao32 : Option Addr).map (·.add ((x9_1 : Int).toNat * 1))) := ⟨_, rfl⟩; obtain ⟨c35, hc35⟩ : ∃ c1, c1 = co32 - (x9_1 : Int).toNat := ⟨_, rfl⟩; have hy35 : y317.length = x8_1.length - (x9_1 : Int).toNat := (by rw [Ny317.out, List.length_drop] <;> omega); rw [show (x8_1).drop (x9_1 : Int).toNat = y317 from Ny317.out.symm] at hr35; replace hr35 : Kd.C (Kd.int .i64) _ A35 y317.length y317 := (by rw [hA35]; exact hr35); rw [← hy35, ← hA35, ← hc35] at hcut35; have HR320 := Aside0.mk hr35; have HC320 := Aside0.mk (show y317.length ≤ c35 from by rw [hy35, hc35]; exact Nat.sub_le_sub_right hroom35 _); clear hr35 hC35 hroom35 hi035 hsz35 hc35; have KY35 := Aside0.mk hy35; have KA35 := Aside0.mk hA35; clear hy35 hA35; have KL35 := Aside0.mk (show (x9_1 : Int).toNat ≤ x8_1.length from by omega); replace q35 := eq_true q35) | ((with_reducible refine gate_builtin (b := .append) (xs := #[.tmp 72, .tmp 75]) rfl ?_); (try (refine gate_guard (by rfl) ?_; dsimp only)); at_builtin; refine Kd.R_append_rows (Kd.int .i64) (w0 := w) w.heap.size rfl (.tmp 72) (.tmp 75) 24 3 (.int .i64 0) 8 rfl Tryd.underlying24 info3 rfl (by decide) (by omega) v315 y314 y317 _ _ _ (fun k_ => some k_ ≠ (.slice Ao32 x8_1.length co32 : Value).ownBlock) (fun _ => False) rfl rfl ?aO ?aR (fun _ _ h => h) (fun _ h => h.elim) ?aF ?aB ?aS ?aL ?_; (case aR => repeat (first | exact (by repeat (first | (with_reducible exact HR320.out) | (with_reducible refine Kd.C_alloc ?_ _) | (with_reducible refine Kd.C_drewN ?_ _) | (with_reducible refine Kd.C_drew ?_) | exact HR320.out)) | (with_reducible refine Kd.C_alloc ?_ _) | (with_reducible refine Kd.C_drewN ?_ _) | (with_reducible refine Kd.C_drew ?_))); (case aB => exact (by repeat (first | (with_reducible first | exact HB.out | apply below_alloc | apply pw_below_drewN | apply below_drew1) | exact HB.out))); (case aF => exact (fun k_ hk => Kd.fresh' (Kd.R_lt (by (with_reducible repeat (first | apply Kd.R_alloc | apply Kd.R_drewN | apply Kd.R_drew)); exact HO_8.out)) k_ hk)); (case aO => exact (by (with_reducible repeat (first | apply Kd.R_alloc | apply Kd.R_drewN | apply Kd.R_drew)); exact HO316.out)); (case aS => exact (below_size (by repeat (first | (with_reducible first | exact HB.out | apply below_alloc | apply pw_below_drewN | apply below_drew1) | exact HB.out)))); (case aL => have := LMc30.out; omega); intro v322 w36 ho hb hg hat; rw [← Ny321.out] at ho; have n0_ := Aside0.mk (Kd.R_over' (by (with_reducible repeat (first | apply Kd.R_alloc | apply Kd.R_drewN | apply Kd.R_drew)); exact HO_7.out) (Kd.R_typed (by (with_reducible repeat (first | apply Kd.R_alloc | apply Kd.R_drewN | apply Kd.R_drew)); exact HO316.out)) (by decide) hg); have n1_ := Aside0.mk (Kd.R_after (ok := (fun _ => True)) (by (with_reducible repeat (first | apply Kd.R_alloc | apply Kd.R_drewN | apply Kd.R_drew)); exact HO_8.out) hg hat); have n2_ := Aside0.mk (hb); have n3_ := Aside0.mk ((show Kd.C (Kd.int .i64) w36 Ao32 y307.length y307 from by rw [Ny307.out]; exact Kd.C_take (m := (x9_1 : Int).toNat) ((Kd.R_reads' (Kd.R_after (ok := (fun _ => True)) (by (with_reducible repeat (first | apply Kd.R_alloc | apply Kd.R_drewN | apply Kd.R_drew)); exact HO_8.out) hg hat)).2.2) KL31.out)); have n4_ := Aside0.mk ((show Kd.C (Kd.int .i64) w36 A35 y317.length y317 from by rw [Ny317.out, KA35.out]; exact Kd.C_drop (m := (x9_1 : Int).toNat) (c := co32) ((Kd.R_reads' (Kd.R_after (ok := (fun _ => True)) (by (with_reducible repeat (first | apply Kd.R_alloc | apply Kd.R_drewN | apply Kd.R_drew)); exact HO_8.out) hg hat)).2.2) KL35.out ((Kd.R_reads' (Kd.R_after (ok := (fun _ => True)) (by (with_reducible repeat (first | apply Kd.R_alloc | apply Kd.R_drewN | apply Kd.R_drew)); exact HO_8.out) hg hat)).2.1))); have n5_ := Aside0.mk (ho); clear HO_7; clear HO_8; clear HB; clear HR310; clear HR320; clear HO316; have HO_7 := n0_; have HO_8 := n1_; have HB := n2_; have HR310 := n3_; have HR320 := n4_; have HO323 := n5_; clear n0_ n1_ n2_ n3_ n4_ n5_; clear ho hb hg hat))
          go_roundg k1
          case measure => have := HK1.out; omega
          case rel => exact ⟨(y321), (wrap64 (x9_1 + 1)), (by first | rfl | (simp; done) | (simp [*]; done)), H', ⟨by have := HK1.out; omega⟩, ⟨by (with_reducible repeat (first | apply Kd.R_alloc | apply Kd.R_drewN | apply Kd.R_drew)); exact HO_7.out⟩, ⟨by (with_reducible repeat (first | apply Kd.R_alloc | apply Kd.R_drewN | apply Kd.R_drew)); exact Kd.R_mono HO323.out (fun _ hk => trivial)⟩, ⟨by repeat (first | (with_reducible first | exact HB.out | apply below_alloc | apply pw_below_drewN | apply below_drew1) | exact HB.out)⟩⟩
         ·rw [if_neg c30] at H
          exact absurd H (by simp)
        ·rw [if_neg c27] at H
         exact absurd H (by simp)
       ·rw [if_neg c26] at H
        exact absurd H (by simp)
      ·rw [if_neg c25] at H
       exact absurd H (by simp)
     ·rw [if_neg c24] at H
      exact absurd H (by simp)
   ·rw [if_neg c6] at H
    have c6b0 : decide (x9_1 < t284) = false := decide_eq_false c6
    clear c6
    have H' := Aside0.mk H
    clear H
    go_wp2
    go_loopg [12, 13] k1 (fun kq v12 v13 w' => ∃ (x12_2 : List (S48)) (x13_2 : Int), v13 = .int .i64 x13_2 ∧ Aside0 (numnahlaw06_WettingRenamed.l1 kq t284 l2 t285 x8_1 x12_2 x13_2 = some r) ∧ Aside0 (kq ≤ k1) ∧ Aside0 (Kd.R k48 48 w' w.heap.size (fun k_ => some k_ ≠ (v12 : Value).ownBlock) v286 t285) ∧ Aside0 (Kd.R (Kd.int .i64) 3 w' w.heap.size (fun _ => True) u8 x8_1) ∧ Aside0 (Kd.R k48 48 w' w.heap.size (fun k_ => some k_ ≠ (v286 : Value).ownBlock) v12 x12_2) ∧ Aside0 (Below w.heap.size w w'))
    case atStart => exact ⟨(([] : List (S48))), (0), (by first | rfl | (simp; done) | (simp [*]; done)), H', ⟨Nat.le_refl _⟩, ⟨by (with_reducible repeat (first | apply Kd.R_alloc | apply Kd.R_drewN | apply Kd.R_drew)); exact Kd.R_mono HO_7.out (fun _ hk => (by simp [Value.ownBlock]))⟩, ⟨by (with_reducible repeat (first | apply Kd.R_alloc | apply Kd.R_drewN | apply Kd.R_drew)); exact HO_8.out⟩, ⟨by first | exact Kd.R_nil _ _ _ _ _ | exact Kd.N_nil _ _ _ _ _ | exact Kd.V_nil _ _ _ _ _ | exact Kd.Q_nil _ _ _ _ _ | exact Kd.S_nil _ _ _ _ _⟩, ⟨by repeat (first | (with_reducible first | exact HB.out | apply below_alloc | apply pw_below_drewN | apply below_drew1) | exact HB.out)⟩⟩
    case round =>
     clear H'
     try clear c1
     try clear q1
     try clear c2
     try clear p2
     try clear q2
     try clear hx2
     try clear c3
     try clear q3
     try clear c5
     try clear c6
     try clear c6b0
     try clear p6
     try clear c7
     try clear c7b0
     try clear c9
     try clear c9b0
     try clear c11
     try clear c11b0
     try clear c11b1
     try clear c12
     try clear c12b0
     try clear c12b1
     try clear c13
     try clear c14
     try clear c15
     try clear c15b0
     try clear c16
     try clear c16b0
     try clear c17
     try clear q18
     try clear c22
     try clear q22
     try clear c24
     try clear c24b0
     try clear c24b1
     try clear c25
     try clear c25b0
     try clear c25b1
     try clear c26
     try clear c27
     try clear c28
     try clear c28b0
     try clear p28
     try clear q28
     try clear hx28
     try clear c29
     try clear c29b0
     try clear c30
     try clear q31
     try clear c35
     try clear q35
     try clear hx288_0
     try clear p2
     try clear p288
     try clear q022
     try clear q035
     try clear q18
     try clear q22
     try clear q288
     try clear q31
     try clear q35
     obtain ⟨x12_2, x13_2, rfl, HA, HK2, HO_7, HO_8, HO_12, HB⟩ := hrel
     cases gk with
     | zero => exact absurd HA.out (by simp [numnahlaw06_WettingRenamed.l1])
     | succ k2 =>
      have H := HA.out
      clear HA
      simp only [numnahlaw06_WettingRenamed.l1] at H
      by_cases c37 : x13_2 < (t285.length : Int)
      ·rw [if_pos c37] at H
       have c37b0 : decide (x13_2 < (t285.length : Int)) = true := decide_eq_true c37
       clear c37
       by_cases c38 : 0 ≤ x13_2
       ·rw [if_pos c38] at H
        have c38b0 : decide (0 ≤ x13_2) = true := decide_eq_true c38
        clear c38
        by_cases c39 : 0 ≤ ((rd_T48 t285 x13_2).f0)
        ·rw [if_pos c39] at H
         have c39b0 : decide (0 ≤ ((rd_T48 t285 x13_2).f0)) = true := decide_eq_true c39
         clear c39
         by_cases c40 : ((rd_T48 t285 x13_2).f0) < (x8_1.length : Int)
         ·rw [if_pos c40] at H
          have c40b0 : decide (((rd_T48 t285 x13_2).f0) < (x8_1.length : Int)) = true := decide_eq_true c40
          clear c40
          by_cases c41 : 0 ≤ ((rd_T48 t285 x13_2).f1)
          ·rw [if_pos c41] at H
           have c41b0 : decide (0 ≤ ((rd_T48 t285 x13_2).f1)) = true := decide_eq_true c41
           clear c41
           by_cases c42 : ((rd_T48 t285 x13_2).f1) < (x8_1.length : Int)
           ·rw [if_pos c42] at H
            have c42b0 : decide (((rd_T48 t285 x13_2).f1) < (x8_1.length : Int)) = true := decide_eq_true c42
            clear c42
            obtain ⟨ji43, hji43⟩ : ∃ j_ : Int, (mn (rd x8_1 ((rd_T48 t285 x13_2).f0)) (rd x8_1 ((rd_T48 t285 x13_2).f1))) = j_ := ⟨_, rfl⟩
            replace H : (if x12_2.length < 8796093022208 then (numnahlaw06_WettingRenamed.l1 k2 t284 l2 t285 x8_1 (x12_2 ++ [(⟨ji43, mx (rd x8_1 ((rd_T48 t285 x13_2).f0)) (rd x8_1 ((rd_T48 t285 x13_2).f1))⟩ : S48)]) (wrap64 (x13_2 + 1))) else (none)) = some r := by first | (rw [hji43] at H; exact H) | (simp only [hji43] at H ⊢; exact H)
            have hji43_ : (if (rd x8_1 ((rd_T48 t285 x13_2).f1)) < (rd x8_1 ((rd_T48 t285 x13_2).f0)) then (rd x8_1 ((rd_T48 t285 x13_2).f1)) else (rd x8_1 ((rd_T48 t285 x13_2).f0))) = ji43 := hji43
            obtain ⟨ji44, hji44⟩ : ∃ j_ : Int, (mx (rd x8_1 ((rd_T48 t285 x13_2).f0)) (rd x8_1 ((rd_T48 t285 x13_2).f1))) = j_ := ⟨_, rfl⟩
            replace H : (if x12_2.length < 8796093022208 then (numnahlaw06_WettingRenamed.l1 k2 t284 l2 t285 x8_1 (x12_2 ++ [(⟨ji43, ji44⟩ : S48)]) (wrap64 (x13_2 + 1))) else (none)) = some r := by first | (rw [hji44] at H; exact H) | (simp only [hji44] at H ⊢; exact H)
            have hji44_ : (if (rd x8_1 ((rd_T48 t285 x13_2).f0)) < (rd x8_1 ((rd_T48 t285 x13_2).f1)) then (rd x8_1 ((rd_T48 t285 x13_2).f1)) else (rd x8_1 ((rd_T48 t285 x13_2).f0))) = ji44 := hji44
            by_cases c45 : x12_2.length < 8796093022208
            ·rw [if_pos c45] at H
             have LMc45 := Aside0.mk c45
             clear c45
             obtain ⟨y328, hy328⟩ : ∃ y_ : List (S48), y_ = (x12_2 ++ [(⟨ji43, ji44⟩ : S48)]) := ⟨_, rfl⟩
             replace H : (numnahlaw06_WettingRenamed.l1 k2 t284 l2 t285 x8_1 y328 (wrap64 (x13_2 + 1))) = some r := by first | (rw [hy328]; with_reducible exact H) | (have H2_ := (Option.bind_some _ _).symm.trans H; rw [hy328]; with_reducible exact H2_) | (have H2_ := (Option.bind_some _ _).symm.trans H; with_reducible exact H2_) | with_reducible exact H | (rw [hy328]; exact H) | exact H
             have Ny328 := Aside0.mk hy328
             clear hy328
             have H' := Aside0.mk H
             clear H
             obtain ⟨Ao46, co46, eo46⟩ := Kd.R_slice HO_7.out
             subst eo46
             have p324 : 0 ≤ (x13_2 : Int) := of_decide_eq_true (by first | (with_reducible assumption) | assumption)
             have q324 : x13_2 < (t285.length : Int) := of_decide_eq_true (by first | (with_reducible assumption) | assumption)
             obtain ⟨ad324, e324, hx324_0, hx324_1⟩ := at_T48 (Kd.R_reads' HO_7.out).2.2 x13_2 p324 q324
             cases e324
             replace p324 := eq_true p324
             replace q324 := eq_true q324
             obtain ⟨Ao47, co47, eo47⟩ := Kd.R_slice HO_8.out
             subst eo47
             have p325 : 0 ≤ (((rd_T48 t285 x13_2).f0) : Int) := of_decide_eq_true (by first | (with_reducible assumption) | assumption)
             have q325 : ((rd_T48 t285 x13_2).f0) < (x8_1.length : Int) := of_decide_eq_true (by first | (with_reducible assumption) | assumption)
             obtain ⟨ad325, e325, hx325_0⟩ := Kd.at_int (Kd.R_reads' HO_8.out).2.2 ((rd_T48 t285 x13_2).f0) p325 q325
             cases e325
             replace p325 := eq_true p325
             replace q325 := eq_true q325
             have p326 : 0 ≤ (x13_2 : Int) := of_decide_eq_true (by first | (with_reducible assumption) | assumption)
             have q326 : x13_2 < (t285.length : Int) := of_decide_eq_true (by first | (with_reducible assumption) | assumption)
             obtain ⟨ad326, e326, hx326_0, hx326_1⟩ := at_T48 (Kd.R_reads' HO_7.out).2.2 x13_2 p326 q326
             obtain rfl : ad324 = ad326 := (by injection e326)
             replace p326 := eq_true p326
             replace q326 := eq_true q326
             have p327 : 0 ≤ (((rd_T48 t285 x13_2).f1) : Int) := of_decide_eq_true (by first | (with_reducible assumption) | assumption)
             have q327 : ((rd_T48 t285 x13_2).f1) < (x8_1.length : Int) := of_decide_eq_true (by first | (with_reducible assumption) | assumption)
             obtain ⟨ad327, e327, hx327_0⟩ := Kd.at_int (Kd.R_reads' HO_8.out).2.2 ((rd_T48 t285 x13_2).f1) p327 q327
             obtain rfl : ad325 = ad327 := (by injection e327)
             replace p327 := eq_true p327
             replace q327 := eq_true q327
             go_wp2_with (fail)
             repeat (go_quiet (fail); try go_wp2_with (first | ((with_reducible refine gate_builtin (b := .append) (xs := #[.tmp 99, .tmp 107]) rfl ?_); (try (refine gate_guard (by rfl) ?_; dsimp only)); at_builtin; refine Kd.R_append k48 (w0 := w) w.heap.size rfl (.tmp 99) (.tmp 107) 22 48 (.agg #[(.int .i64 0), (.int .i64 0)]) 16 rfl Tryd.underlying22 info48 rfl (by decide) (by omega) u12 x12_2 (⟨ji43, ji44⟩ : S48) [.int .i64 ji43, .int .i64 ji44] (fun k_ => some k_ ≠ (.slice (some ad324) t285.length co46 : Value).ownBlock) (fun _ => False) rfl rfl ?aP (fun _ hk => hk.elim) ?aF ?aO ?aB ?aS ?aL ?_; (case aP => exact k48_mkM _ _ _ (⟨ji43, ji44⟩ : S48)); (case aB => exact (by repeat (first | (with_reducible first | exact HB.out | apply below_alloc | apply pw_below_drewN | apply below_drew1) | exact HB.out))); (case aF => exact (fun k_ hk => Kd.fresh' (Kd.R_lt (by (with_reducible repeat (first | apply Kd.R_alloc | apply Kd.R_drewN | apply Kd.R_drew)); exact HO_7.out)) k_ hk)); (case aO => exact (by (with_reducible repeat (first | apply Kd.R_alloc | apply Kd.R_drewN | apply Kd.R_drew)); exact HO_12.out)); (case aS => exact (below_size (by repeat (first | (with_reducible first | exact HB.out | apply below_alloc | apply pw_below_drewN | apply below_drew1) | exact HB.out)))); (case aL => have := LMc45.out; omega); intro v329 w48 ho hb hg hat; rw [← Ny328.out] at ho; have n0_ := Aside0.mk (Kd.R_after (ok := (fun _ => True)) (by (with_reducible repeat (first | apply Kd.R_alloc | apply Kd.R_drewN | apply Kd.R_drew)); exact Kd.R_mono HO_7.out (fun _ hk => ⟨trivial, hk⟩)) hg hat); have n1_ := Aside0.mk (Kd.R_over' (by (with_reducible repeat (first | apply Kd.R_alloc | apply Kd.R_drewN | apply Kd.R_drew)); exact HO_8.out) (Kd.R_typed (by (with_reducible repeat (first | apply Kd.R_alloc | apply Kd.R_drewN | apply Kd.R_drew)); exact HO_12.out)) (by decide) hg); have n2_ := Aside0.mk (hb); have n3_ := Aside0.mk (ho); clear HO_7; clear HO_8; clear HB; clear HO_12; have HO_7 := n0_; have HO_8 := n1_; have HB := n2_; have HO330 := n3_; clear n0_ n1_ n2_ n3_; clear ho hb hg hat)))
             go_roundg k2
             case measure => have := HK1.out; have := HK2.out; omega
             case rel => exact ⟨(y328), (wrap64 (x13_2 + 1)), (by first | rfl | (simp; done) | (simp [*]; done)), H', ⟨by have := HK1.out; have := HK2.out; omega⟩, ⟨by (with_reducible repeat (first | apply Kd.R_alloc | apply Kd.R_drewN | apply Kd.R_drew)); exact Kd.R_mono HO_7.out (fun _ hk => hk.2)⟩, ⟨by (with_reducible repeat (first | apply Kd.R_alloc | apply Kd.R_drewN | apply Kd.R_drew)); exact HO_8.out⟩, ⟨by (with_reducible repeat (first | apply Kd.R_alloc | apply Kd.R_drewN | apply Kd.R_drew)); exact HO330.out⟩, ⟨by repeat (first | (with_reducible first | exact HB.out | apply below_alloc | apply pw_below_drewN | apply below_drew1) | exact HB.out)⟩⟩
            ·rw [if_neg c45] at H
             exact absurd H (by simp)
           ·rw [if_neg c42] at H
            exact absurd H (by simp)
          ·rw [if_neg c41] at H
           exact absurd H (by simp)
         ·rw [if_neg c40] at H
          exact absurd H (by simp)
        ·rw [if_neg c39] at H
         exact absurd H (by simp)
       ·rw [if_neg c38] at H
        exact absurd H (by simp)
      ·rw [if_neg c37] at H
       have c37b0 : decide (x13_2 < (t285.length : Int)) = false := decide_eq_false c37
       clear c37
       have HC49 := Aside0.mk H
       clear H
       obtain ⟨Ao50, co50, eo50⟩ := Kd.R_slice HO_7.out
       subst eo50
       go_upto_if 111 with (fail)
       go_cut [16] (fun v16 wc => ∃ (kq : Nat) (x16_48 : Int), v16 = .int .i64 x16_48 ∧ Aside0 (numnahlaw06_WettingRenamed.j2 kq t284 t285 x8_1 x12_2 x16_48 = some r) ∧ Aside0 (kq ≤ k2) ∧ Aside0 (Kd.R k48 48 wc w.heap.size (fun k_ => some k_ ≠ (u12 : Value).ownBlock) (.slice Ao50 t285.length co50) t285) ∧ Aside0 (Kd.R (Kd.int .i64) 3 wc w.heap.size (fun _ => True) u8 x8_1) ∧ Aside0 (Kd.R k48 48 wc w.heap.size (fun k_ => some k_ ≠ ((.slice Ao50 t285.length co50) : Value).ownBlock) u12 x12_2) ∧ Aside0 (Below w.heap.size w wc))
       case first => as_aux_lemma =>
        have H := HC49.out
        clear HC49
        by_cases c51 : (l2.length : Int) > 0
        ·rw [if_pos c51] at H
         have c51b0 : decide (0 < (l2.length : Int)) = true := decide_eq_true c51
         have c51b1 : decide (0 < l2.length) = true := decide_eq_true (by omega)
         have c51n2 : (0 < l2.length) = True := eq_true (by omega)
         clear c51
         (first | rw [c51b0] | (simp only [i64_w, i32_w]; rw [c51b0]) | skip)
         by_cases c52 : 0 < (l2.length : Int)
         ·rw [if_pos c52] at H
          have c52b0 : decide (0 < (l2.length : Int)) = true := decide_eq_true c52
          have c52b1 : decide (0 < l2.length) = true := decide_eq_true (by omega)
          have c52n2 : (0 < l2.length) = True := eq_true (by omega)
          clear c52
          have H' := Aside0.mk H
          clear H
          have p331 : 0 ≤ (0 : Int) := (by omega)
          have q331 : 0 < (l2.length : Int) := of_decide_eq_true (by first | (with_reducible assumption) | assumption)
          obtain ⟨ad331, e331, hx331_0⟩ := Kd.at_int HR2.out 0 p331 q331
          cases e331
          have qi331 : (0 < l2.length) = True := eq_true (by omega)
          (try rw [show ((0 : Int)).toNat = 0 from rfl] at hx331_0)
          (try rw [Addr.add_zero'] at hx331_0)
          replace hx331_0 := (HB.out.cell (World.block_lt_of_cell? w _ hx331_0)).trans hx331_0
          replace p331 := eq_true p331
          replace q331 := eq_true q331
          go_wp2
          all_goals (try (exfalso; first | exact absurd (of_decide_eq_true c52b1) (by assumption) | exact absurd (of_decide_eq_true c51b1) (by assumption)))
          go_meet
          case rel => exact ⟨_, (rd l2 0), (by first | rfl | (simp; done) | (simp [*]; done)), H', ⟨by have := HK1.out; have := HK2.out; first | omega | exact Nat.le_refl _⟩, ⟨by (with_reducible repeat (first | apply Kd.R_alloc | apply Kd.R_drewN | apply Kd.R_drew)); exact HO_7.out⟩, ⟨by (with_reducible repeat (first | apply Kd.R_alloc | apply Kd.R_drewN | apply Kd.R_drew)); exact HO_8.out⟩, ⟨by (with_reducible repeat (first | apply Kd.R_alloc | apply Kd.R_drewN | apply Kd.R_drew)); exact HO_12.out⟩, ⟨by repeat (first | (with_reducible first | exact HB.out | apply below_alloc | apply pw_below_drewN | apply below_drew1) | exact HB.out)⟩⟩
         ·rw [if_neg c52] at H
          exact absurd H (by simp)
        ·rw [if_neg c51] at H
         have c51b0 : decide (0 < (l2.length : Int)) = false := decide_eq_false c51
         have c51b1 : decide (0 < l2.length) = false := decide_eq_false (by omega)
         have c51n2 : (0 < l2.length) = False := eq_false (by omega)
         clear c51
         (first | rw [c51b0] | (simp only [i64_w, i32_w]; rw [c51b0]) | skip)
         have H' := Aside0.mk H
         clear H
         go_wp2
         all_goals (try (exfalso; first | exact absurd (by assumption) (of_decide_eq_false c51b1)))
         go_meet
         case rel => exact ⟨_, (0), (by first | rfl | (simp; done) | (simp [*]; done)), H', ⟨by have := HK1.out; have := HK2.out; first | omega | exact Nat.le_refl _⟩, ⟨by (with_reducible repeat (first | apply Kd.R_alloc | apply Kd.R_drewN | apply Kd.R_drew)); exact HO_7.out⟩, ⟨by (with_reducible repeat (first | apply Kd.R_alloc | apply Kd.R_drewN | apply Kd.R_drew)); exact HO_8.out⟩, ⟨by (with_reducible repeat (first | apply Kd.R_alloc | apply Kd.R_drewN | apply Kd.R_drew)); exact HO_12.out⟩, ⟨by repeat (first | (with_reducible first | exact HB.out | apply below_alloc | apply pw_below_drewN | apply below_drew1) | exact HB.out)⟩⟩
       case rest => as_aux_lemma =>
        clear HC49
        try clear c1
        try clear q1
        try clear c2
        try clear p2
        try clear q2
        try clear hx2
        try clear c3
        try clear p3
        try clear q3
        try clear hx3
        try clear qi3
        try clear c4
        try clear c5
        try clear c6
        try clear c6b0
        try clear p6
        try clear c7
        try clear c7b0
        try clear c9
        try clear c9b0
        try clear c11
        try clear c11b0
        try clear c11b1
        try clear c12
        try clear c12b0
        try clear c12b1
        try clear c13
        try clear c14
        try clear c15
        try clear c15b0
        try clear c16
        try clear c16b0
        try clear c17
        try clear q18
        try clear c22
        try clear q22
        try clear c24
        try clear c24b0
        try clear c24b1
        try clear c25
        try clear c25b0
        try clear c25b1
        try clear c26
        try clear c27
        try clear c28
        try clear c28b0
        try clear p28
        try clear q28
        try clear hx28
        try clear c29
        try clear c29b0
        try clear c30
        try clear q31
        try clear p32
        try clear q32
        try clear hx32
        try clear p33
        try clear q33
        try clear hx33
        try clear qi33
        try clear c35
        try clear q35
        try clear c37
        try clear c37b0
        try clear c38
        try clear c38b0
        try clear c39
        try clear c39b0
        try clear c40
        try clear c40b0
        try clear c41
        try clear c41b0
        try clear c42
        try clear c42b0
        try clear c45
        try clear c51
        try clear c51b0
        try clear c51b1
        try clear c52
        try clear c52b0
        try clear c52b1
        try clear hx288_0
        try clear hx324_0
        try clear hx324_1
        try clear hx325_0
        try clear hx326_0
        try clear hx326_1
        try clear hx327_0
        try clear hx331_0
        try clear p2
        try clear p28
        try clear p288
        try clear p324
        try clear p325
        try clear p326
        try clear p327
        try clear p331
        try clear p6
        try clear q022
        try clear q035
        try clear q1
        try clear q18
        try clear q2
        try clear q22
        try clear q28
        try clear q288
        try clear q3
        try clear q31
        try clear q324
        try clear q325
        try clear q326
        try clear q327
        try clear q331
        try clear q35
        obtain ⟨kq, x16_48, rfl, HA, HJ48, HO_7, HO_8, HO_12, HB⟩ := hcut
        cases kq with
        | zero => exact absurd HA.out (by simp [numnahlaw06_WettingRenamed.j2])
        | succ kj48 =>
         have H := HA.out
         clear HA
         simp only [numnahlaw06_WettingRenamed.j2] at H
         replace H := Option.bind_eq_some_iff.mp H
         obtain ⟨t332, A530, H⟩ := H
         replace H : (numnahlaw06_WettingRenamed.l2 kj48 t284 t285 x8_1 x12_2 x16_48 t332 0 0) = some r := H
         have A53 := Aside0.mk A530
         clear A530
         have H' := Aside0.mk H
         clear H
         go_wp2_with (first | (go_at_call 28; (with_reducible refine (numnahlaw06_some.calls kj48 t284 x16_48 t332 _ A53.out).mono ?_); rintro e w54 ⟨v333, rfl, ho0, hb⟩; have n0_ := Aside0.mk (Kd.R_below (by (with_reducible repeat (first | apply Kd.R_alloc | apply Kd.R_drewN | apply Kd.R_drew)); exact HO_7.out) hb); have n1_ := Aside0.mk (Kd.R_elder' (by (with_reducible repeat (first | apply Kd.R_alloc | apply Kd.R_drewN | apply Kd.R_drew)); exact HO_8.out) (Kd.R_base ho0) hb); have n2_ := Aside0.mk (Kd.R_below (by (with_reducible repeat (first | apply Kd.R_alloc | apply Kd.R_drewN | apply Kd.R_drew)); exact HO_12.out) hb); have n3_ := Aside0.mk (Kd.R_lower (Kd.R_new' ho0 (Kd.R_lt (by (with_reducible repeat (first | apply Kd.R_alloc | apply Kd.R_drewN | apply Kd.R_drew)); exact HO_8.out))) (below_size (by repeat (first | (with_reducible first | exact HB.out | apply below_alloc | apply pw_below_drewN | apply below_drew1) | exact HB.out)))); have n4_ := Aside0.mk (below_step (by repeat (first | (with_reducible first | exact HB.out | apply below_alloc | apply pw_below_drewN | apply below_drew1) | exact HB.out)) hb); clear HO_7; clear HO_8; clear HO_12; clear HB; have HO_7 := n0_; have HO_8 := n1_; have HO_12 := n2_; have HO334 := n3_; have HB := n4_; clear n0_ n1_ n2_ n3_ n4_; (try clear hb); (try clear hb2); (try clear hk); (try clear hi); (try clear ho0)))
         go_loopg [18, 19] kj48 (fun kq v18 v19 w' => ∃ (x18_4 : Int) (x19_4 : Int), v18 = .int .i64 x18_4 ∧ v19 = .int .i64 x19_4 ∧ Aside0 (numnahlaw06_WettingRenamed.l2 kq t284 t285 x8_1 x12_2 x16_48 t332 x18_4 x19_4 = some r) ∧ Aside0 (kq ≤ kj48) ∧ Aside0 (Kd.R k48 48 w' w.heap.size (fun k_ => some k_ ≠ (u12 : Value).ownBlock) (.slice Ao50 t285.length co50) t285) ∧ Aside0 (Kd.R (Kd.int .i64) 3 w' w.heap.size (fun k_ => some k_ ≠ (v333 : Value).ownBlock) u8 x8_1) ∧ Aside0 (Kd.R k48 48 w' w.heap.size (fun k_ => some k_ ≠ ((.slice Ao50 t285.length co50) : Value).ownBlock) u12 x12_2) ∧ Aside0 (Kd.R (Kd.int .i64) 3 w' w.heap.size (fun k_ => some k_ ≠ (u8 : Value).ownBlock) v333 t332) ∧ Aside0 (Below w.heap.size w w'))
         case atStart => exact ⟨(0), (0), (by first | rfl | (simp; done) | (simp [*]; done)), (by first | rfl | (simp; done) | (simp [*]; done)), H', ⟨Nat.le_refl _⟩, ⟨by (with_reducible repeat (first | apply Kd.R_alloc | apply Kd.R_drewN | apply Kd.R_drew)); exact HO_7.out⟩, ⟨by (with_reducible repeat (first | apply Kd.R_alloc | apply Kd.R_drewN | apply Kd.R_drew)); exact Kd.R_mono HO_8.out (fun _ hk => hk.2)⟩, ⟨by (with_reducible repeat (first | apply Kd.R_alloc | apply Kd.R_drewN | apply Kd.R_drew)); exact HO_12.out⟩, ⟨by (with_reducible repeat (first | apply Kd.R_alloc | apply Kd.R_drewN | apply Kd.R_drew)); exact Kd.R_mono HO334.out (fun _ hk => hk.2)⟩, ⟨by repeat (first | (with_reducible first | exact HB.out | apply below_alloc | apply pw_below_drewN | apply below_drew1) | exact HB.out)⟩⟩
         case round =>
          clear H'
          try clear c1
          try clear q1
          try clear c2
          try clear p2
          try clear q2
          try clear hx2
          try clear c3
          try clear p3
          try clear q3
          try clear hx3
          try clear qi3
          try clear c4
          try clear c5
          try clear c6
          try clear c6b0
          try clear p6
          try clear c7
          try clear c7b0
          try clear c9
          try clear c9b0
          try clear c11
          try clear c11b0
          try clear c11b1
          try clear c12
          try clear c12b0
          try clear c12b1
          try clear c13
          try clear c14
          try clear c15
          try clear c15b0
          try clear c16
          try clear c16b0
          try clear c17
          try clear q18
          try clear c22
          try clear q22
          try clear c24
          try clear c24b0
          try clear c24b1
          try clear c25
          try clear c25b0
          try clear c25b1
          try clear c26
          try clear c27
          try clear c28
          try clear c28b0
          try clear p28
          try clear q28
          try clear hx28
          try clear c29
          try clear c29b0
          try clear c30
          try clear q31
          try clear p32
          try clear q32
          try clear hx32
          try clear p33
          try clear q33
          try clear hx33
          try clear qi33
          try clear c35
          try clear q35
          try clear c37
          try clear c37b0
          try clear c38
          try clear c38b0
          try clear c39
          try clear c39b0
          try clear c40
          try clear c40b0
          try clear c41
          try clear c41b0
          try clear c42
          try clear c42b0
          try clear c45
          try clear c51
          try clear c51b0
          try clear c51b1
          try clear c52
          try clear c52b0
          try clear c52b1
          try clear hx288_0
          try clear hx324_0
          try clear hx324_1
          try clear hx325_0
          try clear hx326_0
          try clear hx326_1
          try clear hx327_0
          try clear hx331_0
          try clear p2
          try clear p28
          try clear p288
          try clear p3
          try clear p32
          try clear p324
          try clear p325
          try clear p326
          try clear p327
          try clear p33
          try clear p331
          try clear p6
          try clear q022
          try clear q035
          try clear q1
          try clear q18
          try clear q2
          try clear q22
          try clear q28
          try clear q288
          try clear q3
          try clear q31
          try clear q32
          try clear q324
          try clear q325
          try clear q326
          try clear q327
          try clear q33
          try clear q331
          try clear q35
          obtain ⟨x18_4, x19_4, rfl, rfl, HA, HK4, HO_7, HO_8, HO_12, HO_17, HB⟩ := hrel
          cases gk with
          | zero => exact absurd HA.out (by simp [numnahlaw06_WettingRenamed.l2])
          | succ k4 =>
           have H := HA.out
           clear HA
           simp only [numnahlaw06_WettingRenamed.l2] at H
           by_cases c55 : x19_4 < (t332.length : Int)
           ·rw [if_pos c55] at H
            have c55b0 : decide (x19_4 < (t332.length : Int)) = true := decide_eq_true c55
            clear c55
            by_cases c56 : 0 ≤ x19_4
            ·rw [if_pos c56] at H
             have c56b0 : decide (0 ≤ x19_4) = true := decide_eq_true c56
             clear c56
             by_cases c57 : 0 ≤ (rd t332 x19_4)
             ·rw [if_pos c57] at H
              have c57b0 : decide (0 ≤ (rd t332 x19_4)) = true := decide_eq_true c57
              clear c57
              by_cases c58 : (rd t332 x19_4) < (x8_1.length : Int)
              ·rw [if_pos c58] at H
               have c58b0 : decide ((rd t332 x19_4) < (x8_1.length : Int)) = true := decide_eq_true c58
               clear c58
               by_cases c59 : 0 ≤ (rd x8_1 (rd t332 x19_4))
               ·as_aux_lemma =>
                rw [if_pos c59] at H
                have c59b0 := eq_true c59
                have c59b1 : decide (0 ≤ (rd x8_1 (rd t332 x19_4))) = true := decide_eq_true c59
                clear c59
                obtain ⟨ji60, hji60⟩ : ∃ j_ : Int, (shl .i64 1 (rd x8_1 (rd t332 x19_4))) = j_ := ⟨_, rfl⟩
                replace H : (numnahlaw06_WettingRenamed.l2 k4 t284 t285 x8_1 x12_2 x16_48 t332 (Go.bits .or .i64 x18_4 (ji60)) (wrap64 (x19_4 + 1))) = some r := by first | (rw [hji60] at H; exact H) | (simp only [hji60] at H ⊢; exact H)
                have hji60_ : (IntKind.i64.wrap (1 * 2 ^ min (rd x8_1 (rd t332 x19_4)).toNat 64)) = ji60 := hji60
                have hji60z : (rd x8_1 (rd t332 x19_4)) ≤ 64 → (IntKind.i64.wrap (1 * 2 ^ (rd x8_1 (rd t332 x19_4)).toNat)) = ji60 := shl_small hji60
                have hji60u : (IntKind.i64.wrap (2 ^ min (rd x8_1 (rd t332 x19_4)).toNat 64)) = ji60 := by have h_ := hji60_; rw [Int.one_mul] at h_; exact h_
                have hji60v : (rd x8_1 (rd t332 x19_4)) ≤ 64 → (IntKind.i64.wrap (2 ^ (rd x8_1 (rd t332 x19_4)).toNat)) = ji60 := fun hle_ => by have h_ := hji60z hle_; rw [Int.one_mul] at h_; exact h_
                have hji60y : (wrap64 (1 * 2 ^ min (rd x8_1 (rd t332 x19_4)).toNat 64)) = ji60 := (i64_w _).symm.trans hji60_
                have hji60x : (rd x8_1 (rd t332 x19_4)) ≤ 64 → (wrap64 (1 * 2 ^ (rd x8_1 (rd t332 x19_4)).toNat)) = ji60 := fun h_ => (i64_w _).symm.trans (hji60z h_)
                have H' := Aside0.mk H
                clear H
                obtain ⟨Ao61, co61, eo61⟩ := Kd.R_slice HO_17.out
                subst eo61
                have p335 : 0 ≤ (x19_4 : Int) := of_decide_eq_true (by first | (with_reducible assumption) | assumption)
                have q335 : x19_4 < (t332.length : Int) := of_decide_eq_true (by first | (with_reducible assumption) | assumption)
                obtain ⟨ad335, e335, hx335_0⟩ := Kd.at_int (Kd.R_reads' HO_17.out).2.2 x19_4 p335 q335
                cases e335
                replace p335 := eq_true p335
                replace q335 := eq_true q335
                obtain ⟨Ao62, co62, eo62⟩ := Kd.R_slice HO_8.out
                subst eo62
                have p336 : 0 ≤ ((rd t332 x19_4) : Int) := of_decide_eq_true (by first | (with_reducible assumption) | assumption)
                have q336 : (rd t332 x19_4) < (x8_1.length : Int) := of_decide_eq_true (by first | (with_reducible assumption) | assumption)
                obtain ⟨ad336, e336, hx336_0⟩ := Kd.at_int (Kd.R_reads' HO_8.out).2.2 (rd t332 x19_4) p336 q336
                cases e336
                replace p336 := eq_true p336
                replace q336 := eq_true q336
                go_wp2
                go_roundg k4
                case measure => have := HK1.out; have := HK2.out; have := HJ48.out; have := HK4.out; omega
                case rel => exact ⟨(Go.bits .or .i64 x18_4 (ji60)), (wrap64 (x19_4 + 1)), (by first | rfl | (simp; done) | (simp only [← hji60] <;> (first | rfl | simp)) | (simp [*]; done)), (by first | rfl | (simp; done) | (simp [*]; done)), H', ⟨by have := HK1.out; have := HK2.out; have := HJ48.out; have := HK4.out; omega⟩, ⟨by (with_reducible repeat (first | apply Kd.R_alloc | apply Kd.R_drewN | apply Kd.R_drew)); exact HO_7.out⟩, ⟨by (with_reducible repeat (first | apply Kd.R_alloc | apply Kd.R_drewN | apply Kd.R_drew)); exact HO_8.out⟩, ⟨by (with_reducible repeat (first | apply Kd.R_alloc | apply Kd.R_drewN | apply Kd.R_drew)); exact HO_12.out⟩, ⟨by (with_reducible repeat (first | apply Kd.R_alloc | apply Kd.R_drewN | apply Kd.R_drew)); exact HO_17.out⟩, ⟨by repeat (first | (with_reducible first | exact HB.out | apply below_alloc | apply pw_below_drewN | apply below_drew1) | exact HB.out)⟩⟩
               ·rw [if_neg c59] at H
                exact absurd H (by simp)
              ·rw [if_neg c58] at H
               exact absurd H (by simp)
             ·rw [if_neg c57] at H
              exact absurd H (by simp)
            ·rw [if_neg c56] at H
             exact absurd H (by simp)
           ·as_aux_lemma =>
            rw [if_neg c55] at H
            have c55b0 : decide (x19_4 < (t332.length : Int)) = false := decide_eq_false c55
            clear c55
            replace H := Option.bind_eq_some_iff.mp H
            obtain ⟨⟨t337, t338⟩, A630, H⟩ := H
            replace H : ((numnahref06_List.f k4 x18_4).bind fun t341 => ((wetting_Rounds.f t284 x12_2 t341).bind fun bt344 => ((wetting_Least.f t284 t285).bind fun bt348 => ((wetting_Least.f t284 x12_2).bind fun bt352 => ((wetting_Forts.f t284 t285).bind fun bt356 => ((wetting_Forts.f t284 x12_2).bind fun bt360 => ((numnahlaw06_mod.f x16_48 4).bind fun t364 => ((wetting_Fewest.f t284 t285 (wrap64 (1 + t364))).bind fun bt365 => ((wetting_Fewest.f t284 x12_2 (wrap64 (1 + t364))).bind fun bt369 => (if t338 = 0 then (if bt344.2 = 0 then (if bt348.2 = 0 then (if bt352.2 = 0 then (if bt356.2 = 0 then (if bt360.2 = 0 then (if bt365.2 = 0 then (if bt369.2 = 0 then (if (t337.length : Int) = t284 then (numnahlaw06_WettingRenamed.j4 k4 t284 x8_1 t337 bt344.1 bt348.1 bt352.1 bt356.1 bt360.1 bt365.1 bt369.1 ((bt344.1.length : Int) != t284)) else (numnahlaw06_WettingRenamed.j4 k4 t284 x8_1 t337 bt344.1 bt348.1 bt352.1 bt356.1 bt360.1 bt365.1 bt369.1 true)) else (numnahlaw06_WettingRenamed.j4 k4 t284 x8_1 t337 bt344.1 bt348.1 bt352.1 bt356.1 bt360.1 bt365.1 bt369.1 true)) else (numnahlaw06_WettingRenamed.j4 k4 t284 x8_1 t337 bt344.1 bt348.1 bt352.1 bt356.1 bt360.1 bt365.1 bt369.1 true)) else (numnahlaw06_WettingRenamed.j4 k4 t284 x8_1 t337 bt344.1 bt348.1 bt352.1 bt356.1 bt360.1 bt365.1 bt369.1 true)) else (numnahlaw06_WettingRenamed.j4 k4 t284 x8_1 t337 bt344.1 bt348.1 bt352.1 bt356.1 bt360.1 bt365.1 bt369.1 true)) else (numnahlaw06_WettingRenamed.j4 k4 t284 x8_1 t337 bt344.1 bt348.1 bt352.1 bt356.1 bt360.1 bt365.1 bt369.1 true)) else (numnahlaw06_WettingRenamed.j4 k4 t284 x8_1 t337 bt344.1 bt348.1 bt352.1 bt356.1 bt360.1 bt365.1 bt369.1 true)) else (numnahlaw06_WettingRenamed.j4 k4 t284 x8_1 t337 bt344.1 bt348.1 bt352.1 bt356.1 bt360.1 bt365.1 bt369.1 true)) else (numnahlaw06_WettingRenamed.j4 k4 t284 x8_1 t337 bt344.1 bt348.1 bt352.1 bt356.1 bt360.1 bt365.1 bt369.1 true))))))))))) = some r := H
            have A63 := Aside0.mk A630
            clear A630
            replace H := Option.bind_eq_some_iff.mp H
            obtain ⟨t341, A640, H⟩ := H
            replace H : ((wetting_Rounds.f t284 x12_2 t341).bind fun bt344 => ((wetting_Least.f t284 t285).bind fun bt348 => ((wetting_Least.f t284 x12_2).bind fun bt352 => ((wetting_Forts.f t284 t285).bind fun bt356 => ((wetting_Forts.f t284 x12_2).bind fun bt360 => ((numnahlaw06_mod.f x16_48 4).bind fun t364 => ((wetting_Fewest.f t284 t285 (wrap64 (1 + t364))).bind fun bt365 => ((wetting_Fewest.f t284 x12_2 (wrap64 (1 + t364))).bind fun bt369 => (if t338 = 0 then (if bt344.2 = 0 then (if bt348.2 = 0 then (if bt352.2 = 0 then (if bt356.2 = 0 then (if bt360.2 = 0 then (if bt365.2 = 0 then (if bt369.2 = 0 then (if (t337.length : Int) = t284 then (numnahlaw06_WettingRenamed.j4 k4 t284 x8_1 t337 bt344.1 bt348.1 bt352.1 bt356.1 bt360.1 bt365.1 bt369.1 ((bt344.1.length : Int) != t284)) else (numnahlaw06_WettingRenamed.j4 k4 t284 x8_1 t337 bt344.1 bt348.1 bt352.1 bt356.1 bt360.1 bt365.1 bt369.1 true)) else (numnahlaw06_WettingRenamed.j4 k4 t284 x8_1 t337 bt344.1 bt348.1 bt352.1 bt356.1 bt360.1 bt365.1 bt369.1 true)) else (numnahlaw06_WettingRenamed.j4 k4 t284 x8_1 t337 bt344.1 bt348.1 bt352.1 bt356.1 bt360.1 bt365.1 bt369.1 true)) else (numnahlaw06_WettingRenamed.j4 k4 t284 x8_1 t337 bt344.1 bt348.1 bt352.1 bt356.1 bt360.1 bt365.1 bt369.1 true)) else (numnahlaw06_WettingRenamed.j4 k4 t284 x8_1 t337 bt344.1 bt348.1 bt352.1 bt356.1 bt360.1 bt365.1 bt369.1 true)) else (numnahlaw06_WettingRenamed.j4 k4 t284 x8_1 t337 bt344.1 bt348.1 bt352.1 bt356.1 bt360.1 bt365.1 bt369.1 true)) else (numnahlaw06_WettingRenamed.j4 k4 t284 x8_1 t337 bt344.1 bt348.1 bt352.1 bt356.1 bt360.1 bt365.1 bt369.1 true)) else (numnahlaw06_WettingRenamed.j4 k4 t284 x8_1 t337 bt344.1 bt348.1 bt352.1 bt356.1 bt360.1 bt365.1 bt369.1 true)) else (numnahlaw06_WettingRenamed.j4 k4 t284 x8_1 t337 bt344.1 bt348.1 bt352.1 bt356.1 bt360.1 bt365.1 bt369.1 true)))))))))) = some r := H
            have A64 := Aside0.mk A640
            clear A640
            replace H := Option.bind_eq_some_iff.mp H
            obtain ⟨⟨t344, t345⟩, A650, H⟩ := H
            replace H : ((wetting_Least.f t284 t285).bind fun bt348 => ((wetting_Least.f t284 x12_2).bind fun bt352 => ((wetting_Forts.f t284 t285).bind fun bt356 => ((wetting_Forts.f t284 x12_2).bind fun bt360 => ((numnahlaw06_mod.f x16_48 4).bind fun t364 => ((wetting_Fewest.f t284 t285 (wrap64 (1 + t364))).bind fun bt365 => ((wetting_Fewest.f t284 x12_2 (wrap64 (1 + t364))).bind fun bt369 => (if t338 = 0 then (if t345 = 0 then (if bt348.2 = 0 then (if bt352.2 = 0 then (if bt356.2 = 0 then (if bt360.2 = 0 then (if bt365.2 = 0 then (if bt369.2 = 0 then (if (t337.length : Int) = t284 then (numnahlaw06_WettingRenamed.j4 k4 t284 x8_1 t337 t344 bt348.1 bt352.1 bt356.1 bt360.1 bt365.1 bt369.1 ((t344.length : Int) != t284)) else (numnahlaw06_WettingRenamed.j4 k4 t284 x8_1 t337 t344 bt348.1 bt352.1 bt356.1 bt360.1 bt365.1 bt369.1 true)) else (numnahlaw06_WettingRenamed.j4 k4 t284 x8_1 t337 t344 bt348.1 bt352.1 bt356.1 bt360.1 bt365.1 bt369.1 true)) else (numnahlaw06_WettingRenamed.j4 k4 t284 x8_1 t337 t344 bt348.1 bt352.1 bt356.1 bt360.1 bt365.1 bt369.1 true)) else (numnahlaw06_WettingRenamed.j4 k4 t284 x8_1 t337 t344 bt348.1 bt352.1 bt356.1 bt360.1 bt365.1 bt369.1 true)) else (numnahlaw06_WettingRenamed.j4 k4 t284 x8_1 t337 t344 bt348.1 bt352.1 bt356.1 bt360.1 bt365.1 bt369.1 true)) else (numnahlaw06_WettingRenamed.j4 k4 t284 x8_1 t337 t344 bt348.1 bt352.1 bt356.1 bt360.1 bt365.1 bt369.1 true)) else (numnahlaw06_WettingRenamed.j4 k4 t284 x8_1 t337 t344 bt348.1 bt352.1 bt356.1 bt360.1 bt365.1 bt369.1 true)) else (numnahlaw06_WettingRenamed.j4 k4 t284 x8_1 t337 t344 bt348.1 bt352.1 bt356.1 bt360.1 bt365.1 bt369.1 true)) else (numnahlaw06_WettingRenamed.j4 k4 t284 x8_1 t337 t344 bt348.1 bt352.1 bt356.1 bt360.1 bt365.1 bt369.1 true))))))))) = some r := H
            have A65 := Aside0.mk A650
            clear A650
            replace H := Option.bind_eq_some_iff.mp H
            obtain ⟨⟨t348, t349⟩, A660, H⟩ := H
            replace H : ((wetting_Least.f t284 x12_2).bind fun bt352 => ((wetting_Forts.f t284 t285).bind fun bt356 => ((wetting_Forts.f t284 x12_2).bind fun bt360 => ((numnahlaw06_mod.f x16_48 4).bind fun t364 => ((wetting_Fewest.f t284 t285 (wrap64 (1 + t364))).bind fun bt365 => ((wetting_Fewest.f t284 x12_2 (wrap64 (1 + t364))).bind fun bt369 => (if t338 = 0 then (if t345 = 0 then (if t349 = 0 then (if bt352.2 = 0 then (if bt356.2 = 0 then (if bt360.2 = 0 then (if bt365.2 = 0 then (if bt369.2 = 0 then (if (t337.length : Int) = t284 then (numnahlaw06_WettingRenamed.j4 k4 t284 x8_1 t337 t344 t348 bt352.1 bt356.1 bt360.1 bt365.1 bt369.1 ((t344.length : Int) != t284)) else (numnahlaw06_WettingRenamed.j4 k4 t284 x8_1 t337 t344 t348 bt352.1 bt356.1 bt360.1 bt365.1 bt369.1 true)) else (numnahlaw06_WettingRenamed.j4 k4 t284 x8_1 t337 t344 t348 bt352.1 bt356.1 bt360.1 bt365.1 bt369.1 true)) else (numnahlaw06_WettingRenamed.j4 k4 t284 x8_1 t337 t344 t348 bt352.1 bt356.1 bt360.1 bt365.1 bt369.1 true)) else (numnahlaw06_WettingRenamed.j4 k4 t284 x8_1 t337 t344 t348 bt352.1 bt356.1 bt360.1 bt365.1 bt369.1 true)) else (numnahlaw06_WettingRenamed.j4 k4 t284 x8_1 t337 t344 t348 bt352.1 bt356.1 bt360.1 bt365.1 bt369.1 true)) else (numnahlaw06_WettingRenamed.j4 k4 t284 x8_1 t337 t344 t348 bt352.1 bt356.1 bt360.1 bt365.1 bt369.1 true)) else (numnahlaw06_WettingRenamed.j4 k4 t284 x8_1 t337 t344 t348 bt352.1 bt356.1 bt360.1 bt365.1 bt369.1 true)) else (numnahlaw06_WettingRenamed.j4 k4 t284 x8_1 t337 t344 t348 bt352.1 bt356.1 bt360.1 bt365.1 bt369.1 true)) else (numnahlaw06_WettingRenamed.j4 k4 t284 x8_1 t337 t344 t348 bt352.1 bt356.1 bt360.1 bt365.1 bt369.1 true)))))))) = some r := H
            have A66 := Aside0.mk A660
            clear A660
            replace H := Option.bind_eq_some_iff.mp H
            obtain ⟨⟨t352, t353⟩, A670, H⟩ := H
            replace H : ((wetting_Forts.f t284 t285).bind fun bt356 => ((wetting_Forts.f t284 x12_2).bind fun bt360 => ((numnahlaw06_mod.f x16_48 4).bind fun t364 => ((wetting_Fewest.f t284 t285 (wrap64 (1 + t364))).bind fun bt365 => ((wetting_Fewest.f t284 x12_2 (wrap64 (1 + t364))).bind fun bt369 => (if t338 = 0 then (if t345 = 0 then (if t349 = 0 then (if t353 = 0 then (if bt356.2 = 0 then (if bt360.2 = 0 then (if bt365.2 = 0 then (if bt369.2 = 0 then (if (t337.length : Int) = t284 then (numnahlaw06_WettingRenamed.j4 k4 t284 x8_1 t337 t344 t348 t352 bt356.1 bt360.1 bt365.1 bt369.1 ((t344.length : Int) != t284)) else (numnahlaw06_WettingRenamed.j4 k4 t284 x8_1 t337 t344 t348 t352 bt356.1 bt360.1 bt365.1 bt369.1 true)) else (numnahlaw06_WettingRenamed.j4 k4 t284 x8_1 t337 t344 t348 t352 bt356.1 bt360.1 bt365.1 bt369.1 true)) else (numnahlaw06_WettingRenamed.j4 k4 t284 x8_1 t337 t344 t348 t352 bt356.1 bt360.1 bt365.1 bt369.1 true)) else (numnahlaw06_WettingRenamed.j4 k4 t284 x8_1 t337 t344 t348 t352 bt356.1 bt360.1 bt365.1 bt369.1 true)) else (numnahlaw06_WettingRenamed.j4 k4 t284 x8_1 t337 t344 t348 t352 bt356.1 bt360.1 bt365.1 bt369.1 true)) else (numnahlaw06_WettingRenamed.j4 k4 t284 x8_1 t337 t344 t348 t352 bt356.1 bt360.1 bt365.1 bt369.1 true)) else (numnahlaw06_WettingRenamed.j4 k4 t284 x8_1 t337 t344 t348 t352 bt356.1 bt360.1 bt365.1 bt369.1 true)) else (numnahlaw06_WettingRenamed.j4 k4 t284 x8_1 t337 t344 t348 t352 bt356.1 bt360.1 bt365.1 bt369.1 true)) else (numnahlaw06_WettingRenamed.j4 k4 t284 x8_1 t337 t344 t348 t352 bt356.1 bt360.1 bt365.1 bt369.1 true))))))) = some r := H
            have A67 := Aside0.mk A670
            clear A670
            replace H := Option.bind_eq_some_iff.mp H
            obtain ⟨⟨t356, t357⟩, A680, H⟩ := H
            replace H : ((wetting_Forts.f t284 x12_2).bind fun bt360 => ((numnahlaw06_mod.f x16_48 4).bind fun t364 => ((wetting_Fewest.f t284 t285 (wrap64 (1 + t364))).bind fun bt365 => ((wetting_Fewest.f t284 x12_2 (wrap64 (1 + t364))).bind fun bt369 => (if t338 = 0 then (if t345 = 0 then (if t349 = 0 then (if t353 = 0 then (if t357 = 0 then (if bt360.2 = 0 then (if bt365.2 = 0 then (if bt369.2 = 0 then (if (t337.length : Int) = t284 then (numnahlaw06_WettingRenamed.j4 k4 t284 x8_1 t337 t344 t348 t352 t356 bt360.1 bt365.1 bt369.1 ((t344.length : Int) != t284)) else (numnahlaw06_WettingRenamed.j4 k4 t284 x8_1 t337 t344 t348 t352 t356 bt360.1 bt365.1 bt369.1 true)) else (numnahlaw06_WettingRenamed.j4 k4 t284 x8_1 t337 t344 t348 t352 t356 bt360.1 bt365.1 bt369.1 true)) else (numnahlaw06_WettingRenamed.j4 k4 t284 x8_1 t337 t344 t348 t352 t356 bt360.1 bt365.1 bt369.1 true)) else (numnahlaw06_WettingRenamed.j4 k4 t284 x8_1 t337 t344 t348 t352 t356 bt360.1 bt365.1 bt369.1 true)) else (numnahlaw06_WettingRenamed.j4 k4 t284 x8_1 t337 t344 t348 t352 t356 bt360.1 bt365.1 bt369.1 true)) else (numnahlaw06_WettingRenamed.j4 k4 t284 x8_1 t337 t344 t348 t352 t356 bt360.1 bt365.1 bt369.1 true)) else (numnahlaw06_WettingRenamed.j4 k4 t284 x8_1 t337 t344 t348 t352 t356 bt360.1 bt365.1 bt369.1 true)) else (numnahlaw06_WettingRenamed.j4 k4 t284 x8_1 t337 t344 t348 t352 t356 bt360.1 bt365.1 bt369.1 true)) else (numnahlaw06_WettingRenamed.j4 k4 t284 x8_1 t337 t344 t348 t352 t356 bt360.1 bt365.1 bt369.1 true)))))) = some r := H
            have A68 := Aside0.mk A680
            clear A680
            replace H := Option.bind_eq_some_iff.mp H
            obtain ⟨⟨t360, t361⟩, A690, H⟩ := H
            replace H : ((numnahlaw06_mod.f x16_48 4).bind fun t364 => ((wetting_Fewest.f t284 t285 (wrap64 (1 + t364))).bind fun bt365 => ((wetting_Fewest.f t284 x12_2 (wrap64 (1 + t364))).bind fun bt369 => (if t338 = 0 then (if t345 = 0 then (if t349 = 0 then (if t353 = 0 then (if t357 = 0 then (if t361 = 0 then (if bt365.2 = 0 then (if bt369.2 = 0 then (if (t337.length : Int) = t284 then (numnahlaw06_WettingRenamed.j4 k4 t284 x8_1 t337 t344 t348 t352 t356 t360 bt365.1 bt369.1 ((t344.length : Int) != t284)) else (numnahlaw06_WettingRenamed.j4 k4 t284 x8_1 t337 t344 t348 t352 t356 t360 bt365.1 bt369.1 true)) else (numnahlaw06_WettingRenamed.j4 k4 t284 x8_1 t337 t344 t348 t352 t356 t360 bt365.1 bt369.1 true)) else (numnahlaw06_WettingRenamed.j4 k4 t284 x8_1 t337 t344 t348 t352 t356 t360 bt365.1 bt369.1 true)) else (numnahlaw06_WettingRenamed.j4 k4 t284 x8_1 t337 t344 t348 t352 t356 t360 bt365.1 bt369.1 true)) else (numnahlaw06_WettingRenamed.j4 k4 t284 x8_1 t337 t344 t348 t352 t356 t360 bt365.1 bt369.1 true)) else (numnahlaw06_WettingRenamed.j4 k4 t284 x8_1 t337 t344 t348 t352 t356 t360 bt365.1 bt369.1 true)) else (numnahlaw06_WettingRenamed.j4 k4 t284 x8_1 t337 t344 t348 t352 t356 t360 bt365.1 bt369.1 true)) else (numnahlaw06_WettingRenamed.j4 k4 t284 x8_1 t337 t344 t348 t352 t356 t360 bt365.1 bt369.1 true)) else (numnahlaw06_WettingRenamed.j4 k4 t284 x8_1 t337 t344 t348 t352 t356 t360 bt365.1 bt369.1 true))))) = some r := H
            have A69 := Aside0.mk A690
            clear A690
            replace H := Option.bind_eq_some_iff.mp H
            obtain ⟨t364, A700, H⟩ := H
            replace H : ((wetting_Fewest.f t284 t285 (wrap64 (1 + t364))).bind fun bt365 => ((wetting_Fewest.f t284 x12_2 (wrap64 (1 + t364))).bind fun bt369 => (if t338 = 0 then (if t345 = 0 then (if t349 = 0 then (if t353 = 0 then (if t357 = 0 then (if t361 = 0 then (if bt365.2 = 0 then (if bt369.2 = 0 then (if (t337.length : Int) = t284 then (numnahlaw06_WettingRenamed.j4 k4 t284 x8_1 t337 t344 t348 t352 t356 t360 bt365.1 bt369.1 ((t344.length : Int) != t284)) else (numnahlaw06_WettingRenamed.j4 k4 t284 x8_1 t337 t344 t348 t352 t356 t360 bt365.1 bt369.1 true)) else (numnahlaw06_WettingRenamed.j4 k4 t284 x8_1 t337 t344 t348 t352 t356 t360 bt365.1 bt369.1 true)) else (numnahlaw06_WettingRenamed.j4 k4 t284 x8_1 t337 t344 t348 t352 t356 t360 bt365.1 bt369.1 true)) else (numnahlaw06_WettingRenamed.j4 k4 t284 x8_1 t337 t344 t348 t352 t356 t360 bt365.1 bt369.1 true)) else (numnahlaw06_WettingRenamed.j4 k4 t284 x8_1 t337 t344 t348 t352 t356 t360 bt365.1 bt369.1 true)) else (numnahlaw06_WettingRenamed.j4 k4 t284 x8_1 t337 t344 t348 t352 t356 t360 bt365.1 bt369.1 true)) else (numnahlaw06_WettingRenamed.j4 k4 t284 x8_1 t337 t344 t348 t352 t356 t360 bt365.1 bt369.1 true)) else (numnahlaw06_WettingRenamed.j4 k4 t284 x8_1 t337 t344 t348 t352 t356 t360 bt365.1 bt369.1 true)) else (numnahlaw06_WettingRenamed.j4 k4 t284 x8_1 t337 t344 t348 t352 t356 t360 bt365.1 bt369.1 true)))) = some r := H
            have A70 := Aside0.mk A700
            clear A700
            replace H := Option.bind_eq_some_iff.mp H
            obtain ⟨⟨t365, t366⟩, A710, H⟩ := H
            replace H : ((wetting_Fewest.f t284 x12_2 (wrap64 (1 + t364))).bind fun bt369 => (if t338 = 0 then (if t345 = 0 then (if t349 = 0 then (if t353 = 0 then (if t357 = 0 then (if t361 = 0 then (if t366 = 0 then (if bt369.2 = 0 then (if (t337.length : Int) = t284 then (numnahlaw06_WettingRenamed.j4 k4 t284 x8_1 t337 t344 t348 t352 t356 t360 t365 bt369.1 ((t344.length : Int) != t284)) else (numnahlaw06_WettingRenamed.j4 k4 t284 x8_1 t337 t344 t348 t352 t356 t360 t365 bt369.1 true)) else (numnahlaw06_WettingRenamed.j4 k4 t284 x8_1 t337 t344 t348 t352 t356 t360 t365 bt369.1 true)) else (numnahlaw06_WettingRenamed.j4 k4 t284 x8_1 t337 t344 t348 t352 t356 t360 t365 bt369.1 true)) else (numnahlaw06_WettingRenamed.j4 k4 t284 x8_1 t337 t344 t348 t352 t356 t360 t365 bt369.1 true)) else (numnahlaw06_WettingRenamed.j4 k4 t284 x8_1 t337 t344 t348 t352 t356 t360 t365 bt369.1 true)) else (numnahlaw06_WettingRenamed.j4 k4 t284 x8_1 t337 t344 t348 t352 t356 t360 t365 bt369.1 true)) else (numnahlaw06_WettingRenamed.j4 k4 t284 x8_1 t337 t344 t348 t352 t356 t360 t365 bt369.1 true)) else (numnahlaw06_WettingRenamed.j4 k4 t284 x8_1 t337 t344 t348 t352 t356 t360 t365 bt369.1 true)) else (numnahlaw06_WettingRenamed.j4 k4 t284 x8_1 t337 t344 t348 t352 t356 t360 t365 bt369.1 true))) = some r := H
            have A71 := Aside0.mk A710
            clear A710
            replace H := Option.bind_eq_some_iff.mp H
            obtain ⟨⟨t369, t370⟩, A720, H⟩ := H
            replace H : (if t338 = 0 then (if t345 = 0 then (if t349 = 0 then (if t353 = 0 then (if t357 = 0 then (if t361 = 0 then (if t366 = 0 then (if t370 = 0 then (if (t337.length : Int) = t284 then (numnahlaw06_WettingRenamed.j4 k4 t284 x8_1 t337 t344 t348 t352 t356 t360 t365 t369 ((t344.length : Int) != t284)) else (numnahlaw06_WettingRenamed.j4 k4 t284 x8_1 t337 t344 t348 t352 t356 t360 t365 t369 true)) else (numnahlaw06_WettingRenamed.j4 k4 t284 x8_1 t337 t344 t348 t352 t356 t360 t365 t369 true)) else (numnahlaw06_WettingRenamed.j4 k4 t284 x8_1 t337 t344 t348 t352 t356 t360 t365 t369 true)) else (numnahlaw06_WettingRenamed.j4 k4 t284 x8_1 t337 t344 t348 t352 t356 t360 t365 t369 true)) else (numnahlaw06_WettingRenamed.j4 k4 t284 x8_1 t337 t344 t348 t352 t356 t360 t365 t369 true)) else (numnahlaw06_WettingRenamed.j4 k4 t284 x8_1 t337 t344 t348 t352 t356 t360 t365 t369 true)) else (numnahlaw06_WettingRenamed.j4 k4 t284 x8_1 t337 t344 t348 t352 t356 t360 t365 t369 true)) else (numnahlaw06_WettingRenamed.j4 k4 t284 x8_1 t337 t344 t348 t352 t356 t360 t365 t369 true)) else (numnahlaw06_WettingRenamed.j4 k4 t284 x8_1 t337 t344 t348 t352 t356 t360 t365 t369 true)) = some r := H
            have A72 := Aside0.mk A720
            clear A720
            have HC73 := Aside0.mk H
            clear H
            obtain ⟨Ao74, co74, eo74⟩ := Kd.R_slice HO_17.out
            subst eo74
            go_upto_region 37 with (first | (go_at_call 34; (with_reducible refine (wetting_Rounds.calls t284 _ _ t285 _ _ t332 t337 t338 _ ?side1 ?side2 ?side3 ?side4 A63.out ?sideT).mono ?_); (case sideT => exact tab_of (by repeat (first | (with_reducible first | exact HB.out | apply below_alloc | apply pw_below_drewN | apply below_drew1) | exact HB.out)) HT.out); (case side1 => repeat (first | exact (Kd.R_reads' HO_7.out).2.2 | (with_reducible refine Kd.C_alloc ?_ _) | (with_reducible refine Kd.C_drewN ?_ _) | (with_reducible refine Kd.C_drew ?_))); (case side2 => exact (Kd.R_reads' HO_7.out).2.1); (case side3 => repeat (first | exact (Kd.R_reads' HO_17.out).2.2 | (with_reducible refine Kd.C_alloc ?_ _) | (with_reducible refine Kd.C_drewN ?_ _) | (with_reducible refine Kd.C_drew ?_))); (case side4 => exact (Kd.R_reads' HO_17.out).2.1); rintro e w75 ⟨v339, rfl, ho0, hb⟩; have n0_ := Aside0.mk (Kd.R_below (by (with_reducible repeat (first | apply Kd.R_alloc | apply Kd.R_drewN | apply Kd.R_drew)); exact HO_7.out) hb); have n1_ := Aside0.mk (Kd.R_elder' (by (with_reducible repeat (first | apply Kd.R_alloc | apply Kd.R_drewN | apply Kd.R_drew)); exact HO_8.out) (Kd.R_base ho0) hb); have n2_ := Aside0.mk (Kd.R_below (by (with_reducible repeat (first | apply Kd.R_alloc | apply Kd.R_drewN | apply Kd.R_drew)); exact HO_12.out) hb); have n3_ := Aside0.mk (Kd.R_elder' (by (with_reducible repeat (first | apply Kd.R_alloc | apply Kd.R_drewN | apply Kd.R_drew)); exact HO_17.out) (Kd.R_base ho0) hb); have n4_ := Aside0.mk (Kd.R_lower (Kd.R_new' (Kd.R_new' ho0 (Kd.R_lt (by (with_reducible repeat (first | apply Kd.R_alloc | apply Kd.R_drewN | apply Kd.R_drew)); exact HO_8.out))) (Kd.R_lt (by (with_reducible repeat (first | apply Kd.R_alloc | apply Kd.R_drewN | apply Kd.R_drew)); exact HO_17.out))) (below_size (by repeat (first | (with_reducible first | exact HB.out | apply below_alloc | apply pw_below_drewN | apply below_drew1) | exact HB.out)))); have n5_ := Aside0.mk (below_step (by repeat (first | (with_reducible first | exact HB.out | apply below_alloc | apply pw_below_drewN | apply below_drew1) | exact HB.out)) hb); clear HO_7; clear HO_8; clear HO_12; clear HO_17; clear HB; have HO_7 := n0_; have HO_8 := n1_; have HO_12 := n2_; have HO_17 := n3_; have HO340 := n4_; have HB := n5_; clear n0_ n1_ n2_ n3_ n4_ n5_; (try clear hb); (try clear hb2); (try clear hk); (try clear hi); (try clear ho0)) | (go_at_call 25; (with_reducible refine (numnahref06_List.calls k4 x18_4 t341 _ A64.out).mono ?_); rintro e w76 ⟨v342, rfl, ho0, hb⟩; have n0_ := Aside0.mk (Kd.R_below (by (with_reducible repeat (first | apply Kd.R_alloc | apply Kd.R_drewN | apply Kd.R_drew)); exact HO_7.out) hb); have n1_ := Aside0.mk (Kd.R_elder' (by (with_reducible repeat (first | apply Kd.R_alloc | apply Kd.R_drewN | apply Kd.R_drew)); exact HO_8.out) (Kd.R_base ho0) hb); have n2_ := Aside0.mk (Kd.R_below (by (with_reducible repeat (first | apply Kd.R_alloc | apply Kd.R_drewN | apply Kd.R_drew)); exact HO_12.out) hb); have n3_ := Aside0.mk (Kd.R_elder' (by (with_reducible repeat (first | apply Kd.R_alloc | apply Kd.R_drewN | apply Kd.R_drew)); exact HO_17.out) (Kd.R_base ho0) hb); have n4_ := Aside0.mk (Kd.R_elder' (by (with_reducible repeat (first | apply Kd.R_alloc | apply Kd.R_drewN | apply Kd.R_drew)); exact HO340.out) (Kd.R_base ho0) hb); have n5_ := Aside0.mk (Kd.R_lower (Kd.R_new' (Kd.R_new' (Kd.R_new' ho0 (Kd.R_lt (by (with_reducible repeat (first | apply Kd.R_alloc | apply Kd.R_drewN | apply Kd.R_drew)); exact HO_8.out))) (Kd.R_lt (by (with_reducible repeat (first | apply Kd.R_alloc | apply Kd.R_drewN | apply Kd.R_drew)); exact HO_17.out))) (Kd.R_lt (by (with_reducible repeat (first | apply Kd.R_alloc | apply Kd.R_drewN | apply Kd.R_drew)); exact HO340.out))) (below_size (by repeat (first | (with_reducible first | exact HB.out | apply below_alloc | apply pw_below_drewN | apply below_drew1) | exact HB.out)))); have n6_ := Aside0.mk (below_step (by repeat (first | (with_reducible first | exact HB.out | apply below_alloc | apply pw_below_drewN | apply below_drew1) | exact HB.out)) hb); clear HO_7; clear HO_8; clear HO_12; clear HO_17; clear HO340; clear HB; have HO_7 := n0_; have HO_8 := n1_; have HO_12 := n2_; have HO_17 := n3_; have HO340 := n4_; have HO343 := n5_; have HB := n6_; clear n0_ n1_ n2_ n3_ n4_ n5_ n6_; (try clear hb); (try clear hb2); (try clear hk); (try clear hi); (try clear ho0); obtain ⟨Ao77, co77, eo77⟩ := Kd.R_slice HO_12.out; subst eo77; obtain ⟨Ao78, co78, eo78⟩ := Kd.R_slice HO343.out; subst eo78) | (go_at_call 34; (with_reducible refine (wetting_Rounds.calls t284 _ _ x12_2 _ _ t341 t344 t345 _ ?side1 ?side2 ?side3 ?side4 A65.out ?sideT).mono ?_); (case sideT => exact tab_of (by repeat (first | (with_reducible first | exact HB.out | apply below_alloc | apply pw_below_drewN | apply below_drew1) | exact HB.out)) HT.out); (case side1 => repeat (first | exact (Kd.R_reads' HO_12.out).2.2 | (with_reducible refine Kd.C_alloc ?_ _) | (with_reducible refine Kd.C_drewN ?_ _) | (with_reducible refine Kd.C_drew ?_))); (case side2 => exact (Kd.R_reads' HO_12.out).2.1); (case side3 => repeat (first | exact (Kd.R_reads' HO343.out).2.2 | (with_reducible refine Kd.C_alloc ?_ _) | (with_reducible refine Kd.C_drewN ?_ _) | (with_reducible refine Kd.C_drew ?_))); (case side4 => exact (Kd.R_reads' HO343.out).2.1); rintro e w79 ⟨v346, rfl, ho0, hb⟩; have n0_ := Aside0.mk (Kd.R_below (by (with_reducible repeat (first | apply Kd.R_alloc | apply Kd.R_drewN | apply Kd.R_drew)); exact HO_7.out) hb); have n1_ := Aside0.mk (Kd.R_elder' (by (with_reducible repeat (first | apply Kd.R_alloc | apply Kd.R_drewN | apply Kd.R_drew)); exact HO_8.out) (Kd.R_base ho0) hb); have n2_ := Aside0.mk (Kd.R_below (by (with_reducible repeat (first | apply Kd.R_alloc | apply Kd.R_drewN | apply Kd.R_drew)); exact HO_12.out) hb); have n3_ := Aside0.mk (Kd.R_elder' (by (with_reducible repeat (first | apply Kd.R_alloc | apply Kd.R_drewN | apply Kd.R_drew)); exact HO_17.out) (Kd.R_base ho0) hb); have n4_ := Aside0.mk (Kd.R_elder' (by (with_reducible repeat (first | apply Kd.R_alloc | apply Kd.R_drewN | apply Kd.R_drew)); exact HO340.out) (Kd.R_base ho0) hb); have n5_ := Aside0.mk (Kd.R_elder' (by (with_reducible repeat (first | apply Kd.R_alloc | apply Kd.R_drewN | apply Kd.R_drew)); exact HO343.out) (Kd.R_base ho0) hb); have n6_ := Aside0.mk (Kd.R_lower (Kd.R_new' (Kd.R_new' (Kd.R_new' (Kd.R_new' ho0 (Kd.R_lt (by (with_reducible repeat (first | apply Kd.R_alloc | apply Kd.R_drewN | apply Kd.R_drew)); exact HO_8.out))) (Kd.R_lt (by (with_reducible repeat (first | apply Kd.R_alloc | apply Kd.R_drewN | apply Kd.R_drew)); exact HO_17.out))) (Kd.R_lt (by (with_reducible repeat (first | apply Kd.R_alloc | apply Kd.R_drewN | apply Kd.R_drew)); exact HO340.out))) (Kd.R_lt (by (with_reducible repeat (first | apply Kd.R_alloc | apply Kd.R_drewN | apply Kd.R_drew)); exact HO343.out))) (below_size (by repeat (first | (with_reducible first | exact HB.out | apply below_alloc | apply pw_below_drewN | apply below_drew1) | exact HB.out)))); have n7_ := Aside0.mk (below_step (by repeat (first | (with_reducible first | exact HB.out | apply below_alloc | apply pw_below_drewN | apply below_drew1) | exact HB.out)) hb); clear HO_7; clear HO_8; clear HO_12; clear HO_17; clear HO340; clear HO343; clear HB; have HO_7 := n0_; have HO_8 := n1_; have HO_12 := n2_; have HO_17 := n3_; have HO340 := n4_; have HO343 := n5_; have HO347 := n6_; have HB := n7_; clear n0_ n1_ n2_ n3_ n4_ n5_ n6_ n7_; (try clear hb); (try clear hb2); (try clear hk); (try clear hi); (try clear ho0)) | (go_at_call 18; (with_reducible refine (wetting_Least.calls t284 _ _ t285 t348 t349 _ ?side1 ?side2 A66.out ?sideT).mono ?_); (case sideT => exact tab_of (by repeat (first | (with_reducible first | exact HB.out | apply below_alloc | apply pw_below_drewN | apply below_drew1) | exact HB.out)) HT.out); (case side1 => repeat (first | exact (Kd.R_reads' HO_7.out).2.2 | (with_reducible refine Kd.C_alloc ?_ _) | (with_reducible refine Kd.C_drewN ?_ _) | (with_reducible refine Kd.C_drew ?_))); (case side2 => exact (Kd.R_reads' HO_7.out).2.1); rintro e w80 ⟨v350, rfl, ho0, hb⟩; have n0_ := Aside0.mk (Kd.R_below (by (with_reducible repeat (first | apply Kd.R_alloc | apply Kd.R_drewN | apply Kd.R_drew)); exact HO_7.out) hb); have n1_ := Aside0.mk (Kd.R_elder' (by (with_reducible repeat (first | apply Kd.R_alloc | apply Kd.R_drewN | apply Kd.R_drew)); exact HO_8.out) (Kd.R_base ho0) hb); have n2_ := Aside0.mk (Kd.R_below (by (with_reducible repeat (first | apply Kd.R_alloc | apply Kd.R_drewN | apply Kd.R_drew)); exact HO_12.out) hb); have n3_ := Aside0.mk (Kd.R_elder' (by (with_reducible repeat (first | apply Kd.R_alloc | apply Kd.R_drewN | apply Kd.R_drew)); exact HO_17.out) (Kd.R_base ho0) hb); have n4_ := Aside0.mk (Kd.R_elder' (by (with_reducible repeat (first | apply Kd.R_alloc | apply Kd.R_drewN | apply Kd.R_drew)); exact HO340.out) (Kd.R_base ho0) hb); have n5_ := Aside0.mk (Kd.R_elder' (by (with_reducible repeat (first | apply Kd.R_alloc | apply Kd.R_drewN | apply Kd.R_drew)); exact HO343.out) (Kd.R_base ho0) hb); have n6_ := Aside0.mk (Kd.R_elder' (by (with_reducible repeat (first | apply Kd.R_alloc | apply Kd.R_drewN | apply Kd.R_drew)); exact HO347.out) (Kd.R_base ho0) hb); have n7_ := Aside0.mk (Kd.R_lower (Kd.R_new' (Kd.R_new' (Kd.R_new' (Kd.R_new' (Kd.R_new' ho0 (Kd.R_lt (by (with_reducible repeat (first | apply Kd.R_alloc | apply Kd.R_drewN | apply Kd.R_drew)); exact HO_8.out))) (Kd.R_lt (by (with_reducible repeat (first | apply Kd.R_alloc | apply Kd.R_drewN | apply Kd.R_drew)); exact HO_17.out))) (Kd.R_lt (by (with_reducible repeat (first | apply Kd.R_alloc | apply Kd.R_drewN | apply Kd.R_drew)); exact HO340.out))) (Kd.R_lt (by (with_reducible repeat (first | apply Kd.R_alloc | apply Kd.R_drewN | apply Kd.R_drew)); exact HO343.out))) (Kd.R_lt (by (with_reducible repeat (first | apply Kd.R_alloc | apply Kd.R_drewN | apply Kd.R_drew)); exact HO347.out))) (below_size (by repeat (first | (with_reducible first | exact HB.out | apply below_alloc | apply pw_below_drewN | apply below_drew1) | exact HB.out)))); have n8_ := Aside0.mk (below_step (by repeat (first | (with_reducible first | exact HB.out | apply below_alloc | apply pw_below_drewN | apply below_drew1) | exact HB.out)) hb); clear HO_7; clear HO_8; clear HO_12; clear HO_17; clear HO340; clear HO343; clear HO347; clear HB; have HO_7 := n0_; have HO_8 := n1_; have HO_12 := n2_; have HO_17 := n3_; have HO340 := n4_; have HO343 := n5_; have HO347 := n6_; have HO351 := n7_; have HB := n8_; clear n0_ n1_ n2_ n3_ n4_ n5_ n6_ n7_ n8_; (try clear hb); (try clear hb2); (try clear hk); (try clear hi); (try clear ho0)) | (go_at_call 18; (with_reducible refine (wetting_Least.calls t284 _ _ x12_2 t352 t353 _ ?side1 ?side2 A67.out ?sideT).mono ?_); (case sideT => exact tab_of (by repeat (first | (with_reducible first | exact HB.out | apply below_alloc | apply pw_below_drewN | apply below_drew1) | exact HB.out)) HT.out); (case side1 => repeat (first | exact (Kd.R_reads' HO_12.out).2.2 | (with_reducible refine Kd.C_alloc ?_ _) | (with_reducible refine Kd.C_drewN ?_ _) | (with_reducible refine Kd.C_drew ?_))); (case side2 => exact (Kd.R_reads' HO_12.out).2.1); rintro e w81 ⟨v354, rfl, ho0, hb⟩; have n0_ := Aside0.mk (Kd.R_below (by (with_reducible repeat (first | apply Kd.R_alloc | apply Kd.R_drewN | apply Kd.R_drew)); exact HO_7.out) hb); have n1_ := Aside0.mk (Kd.R_elder' (by (with_reducible repeat (first | apply Kd.R_alloc | apply Kd.R_drewN | apply Kd.R_drew)); exact HO_8.out) (Kd.R_base ho0) hb); have n2_ := Aside0.mk (Kd.R_below (by (with_reducible repeat (first | apply Kd.R_alloc | apply Kd.R_drewN | apply Kd.R_drew)); exact HO_12.out) hb); have n3_ := Aside0.mk (Kd.R_elder' (by (with_reducible repeat (first | apply Kd.R_alloc | apply Kd.R_drewN | apply Kd.R_drew)); exact HO_17.out) (Kd.R_base ho0) hb); have n4_ := Aside0.mk (Kd.R_elder' (by (with_reducible repeat (first | apply Kd.R_alloc | apply Kd.R_drewN | apply Kd.R_drew)); exact HO340.out) (Kd.R_base ho0) hb); have n5_ := Aside0.mk (Kd.R_elder' (by (with_reducible repeat (first | apply Kd.R_alloc | apply Kd.R_drewN | apply Kd.R_drew)); exact HO343.out) (Kd.R_base ho0) hb); have n6_ := Aside0.mk (Kd.R_elder' (by (with_reducible repeat (first | apply Kd.R_alloc | apply Kd.R_drewN | apply Kd.R_drew)); exact HO347.out) (Kd.R_base ho0) hb); have n7_ := Aside0.mk (Kd.R_elder' (by (with_reducible repeat (first | apply Kd.R_alloc | apply Kd.R_drewN | apply Kd.R_drew)); exact HO351.out) (Kd.R_base ho0) hb); have n8_ := Aside0.mk (Kd.R_lower (Kd.R_new' (Kd.R_new' (Kd.R_new' (Kd.R_new' (Kd.R_new' (Kd.R_new' ho0 (Kd.R_lt (by (with_reducible repeat (first | apply Kd.R_alloc | apply Kd.R_drewN | apply Kd.R_drew)); exact HO_8.out))) (Kd.R_lt (by (with_reducible repeat (first | apply Kd.R_alloc | apply Kd.R_drewN | apply Kd.R_drew)); exact HO_17.out))) (Kd.R_lt (by (with_reducible repeat (first | apply Kd.R_alloc | apply Kd.R_drewN | apply Kd.R_drew)); exact HO340.out))) (Kd.R_lt (by (with_reducible repeat (first | apply Kd.R_alloc | apply Kd.R_drewN | apply Kd.R_drew)); exact HO343.out))) (Kd.R_lt (by (with_reducible repeat (first | apply Kd.R_alloc | apply Kd.R_drewN | apply Kd.R_drew)); exact HO347.out))) (Kd.R_lt (by (with_reducible repeat (first | apply Kd.R_alloc | apply Kd.R_drewN | apply Kd.R_drew)); exact HO351.out))) (below_size (by repeat (first | (with_reducible first | exact HB.out | apply below_alloc | apply pw_below_drewN | apply below_drew1) | exact HB.out)))); have n9_ := Aside0.mk (below_step (by repeat (first | (with_reducible first | exact HB.out | apply below_alloc | apply pw_below_drewN | apply below_drew1) | exact HB.out)) hb); clear HO_7; clear HO_8; clear HO_12; clear HO_17; clear HO340; clear HO343; clear HO347; clear HO351; clear HB; have HO_7 := n0_; have HO_8 := n1_; have HO_12 := n2_; have HO_17 := n3_; have HO340 := n4_; have HO343 := n5_; have HO347 := n6_; have HO351 := n7_; have HO355 := n8_; have HB := n9_; clear n0_ n1_ n2_ n3_ n4_ n5_ n6_ n7_ n8_ n9_; (try clear hb); (try clear hb2); (try clear hk); (try clear hi); (try clear ho0)) | (go_at_call 19; (with_reducible refine (wetting_Forts.calls t284 _ _ t285 t356 t357 _ ?side1 ?side2 A68.out ?sideT).mono ?_); (case sideT => exact tab_of (by repeat (first | (with_reducible first | exact HB.out | apply below_alloc | apply pw_below_drewN | apply below_drew1) | exact HB.out)) HT.out); (case side1 => repeat (first | exact (Kd.R_reads' HO_7.out).2.2 | (with_reducible refine Kd.C_alloc ?_ _) | (with_reducible refine Kd.C_drewN ?_ _) | (with_reducible refine Kd.C_drew ?_))); (case side2 => exact (Kd.R_reads' HO_7.out).2.1); rintro e w82 ⟨v358, rfl, ho0, hb⟩; have n0_ := Aside0.mk (Kd.R_below (by (with_reducible repeat (first | apply Kd.R_alloc | apply Kd.R_drewN | apply Kd.R_drew)); exact HO_7.out) hb); have n1_ := Aside0.mk (Kd.R_below (by (with_reducible repeat (first | apply Kd.R_alloc | apply Kd.R_drewN | apply Kd.R_drew)); exact HO_8.out) hb); have n2_ := Aside0.mk (Kd.R_below (by (with_reducible repeat (first | apply Kd.R_alloc | apply Kd.R_drewN | apply Kd.R_drew)); exact HO_12.out) hb); have n3_ := Aside0.mk (Kd.R_below (by (with_reducible repeat (first | apply Kd.R_alloc | apply Kd.R_drewN | apply Kd.R_drew)); exact HO_17.out) hb); have n4_ := Aside0.mk (Kd.R_below (by (with_reducible repeat (first | apply Kd.R_alloc | apply Kd.R_drewN | apply Kd.R_drew)); exact HO340.out) hb); have n5_ := Aside0.mk (Kd.R_below (by (with_reducible repeat (first | apply Kd.R_alloc | apply Kd.R_drewN | apply Kd.R_drew)); exact HO343.out) hb); have n6_ := Aside0.mk (Kd.R_below (by (with_reducible repeat (first | apply Kd.R_alloc | apply Kd.R_drewN | apply Kd.R_drew)); exact HO347.out) hb); have n7_ := Aside0.mk (Kd.R_below (by (with_reducible repeat (first | apply Kd.R_alloc | apply Kd.R_drewN | apply Kd.R_drew)); exact HO351.out) hb); have n8_ := Aside0.mk (Kd.R_below (by (with_reducible repeat (first | apply Kd.R_alloc | apply Kd.R_drewN | apply Kd.R_drew)); exact HO355.out) hb); have n9_ := Aside0.mk (Kd.S_lower (Kd.S_new' (Kd.S_new' (Kd.S_new' (Kd.S_new' (Kd.S_new' (Kd.S_new' (Kd.S_new' ho0 (Kd.R_lt (by (with_reducible repeat (first | apply Kd.R_alloc | apply Kd.R_drewN | apply Kd.R_drew)); exact HO_8.out))) (Kd.R_lt (by (with_reducible repeat (first | apply Kd.R_alloc | apply Kd.R_drewN | apply Kd.R_drew)); exact HO_17.out))) (Kd.R_lt (by (with_reducible repeat (first | apply Kd.R_alloc | apply Kd.R_drewN | apply Kd.R_drew)); exact HO340.out))) (Kd.R_lt (by (with_reducible repeat (first | apply Kd.R_alloc | apply Kd.R_drewN | apply Kd.R_drew)); exact HO343.out))) (Kd.R_lt (by (with_reducible repeat (first | apply Kd.R_alloc | apply Kd.R_drewN | apply Kd.R_drew)); exact HO347.out))) (Kd.R_lt (by (with_reducible repeat (first | apply Kd.R_alloc | apply Kd.R_drewN | apply Kd.R_drew)); exact HO351.out))) (Kd.R_lt (by (with_reducible repeat (first | apply Kd.R_alloc | apply Kd.R_drewN | apply Kd.R_drew)); exact HO355.out))) (below_size (by repeat (first | (with_reducible first | exact HB.out | apply below_alloc | apply pw_below_drewN | apply below_drew1) | exact HB.out)))); have n10_ := Aside0.mk (below_step (by repeat (first | (with_reducible first | exact HB.out | apply below_alloc | apply pw_below_drewN | apply below_drew1) | exact HB.out)) hb); clear HO_7; clear HO_8; clear HO_12; clear HO_17; clear HO340; clear HO343; clear HO347; clear HO351; clear HO355; clear HB; have HO_7 := n0_; have HO_8 := n1_; have HO_12 := n2_; have HO_17 := n3_; have HO340 := n4_; have HO343 := n5_; have HO347 := n6_; have HO351 := n7_; have HO355 := n8_; have HO359 := n9_; have HB := n10_; clear n0_ n1_ n2_ n3_ n4_ n5_ n6_ n7_ n8_ n9_ n10_; (try clear hb); (try clear hb2); (try clear hk); (try clear hi); (try clear ho0)) | (go_at_call 19; (with_reducible refine (wetting_Forts.calls t284 _ _ x12_2 t360 t361 _ ?side1 ?side2 A69.out ?sideT).mono ?_); (case sideT => exact tab_of (by repeat (first | (with_reducible first | exact HB.out | apply below_alloc | apply pw_below_drewN | apply below_drew1) | exact HB.out)) HT.out); (case side1 => repeat (first | exact (Kd.R_reads' HO_12.out).2.2 | (with_reducible refine Kd.C_alloc ?_ _) | (with_reducible refine Kd.C_drewN ?_ _) | (with_reducible refine Kd.C_drew ?_))); (case side2 => exact (Kd.R_reads' HO_12.out).2.1); rintro e w83 ⟨v362, rfl, ho0, hb⟩; have n0_ := Aside0.mk (Kd.R_below (by (with_reducible repeat (first | apply Kd.R_alloc | apply Kd.R_drewN | apply Kd.R_drew)); exact HO_7.out) hb); have n1_ := Aside0.mk (Kd.R_below (by (with_reducible repeat (first | apply Kd.R_alloc | apply Kd.R_drewN | apply Kd.R_drew)); exact HO_8.out) hb); have n2_ := Aside0.mk (Kd.R_below (by (with_reducible repeat (first | apply Kd.R_alloc | apply Kd.R_drewN | apply Kd.R_drew)); exact HO_12.out) hb); have n3_ := Aside0.mk (Kd.R_below (by (with_reducible repeat (first | apply Kd.R_alloc | apply Kd.R_drewN | apply Kd.R_drew)); exact HO_17.out) hb); have n4_ := Aside0.mk (Kd.R_below (by (with_reducible repeat (first | apply Kd.R_alloc | apply Kd.R_drewN | apply Kd.R_drew)); exact HO340.out) hb); have n5_ := Aside0.mk (Kd.R_below (by (with_reducible repeat (first | apply Kd.R_alloc | apply Kd.R_drewN | apply Kd.R_drew)); exact HO343.out) hb); have n6_ := Aside0.mk (Kd.R_below (by (with_reducible repeat (first | apply Kd.R_alloc | apply Kd.R_drewN | apply Kd.R_drew)); exact HO347.out) hb); have n7_ := Aside0.mk (Kd.R_below (by (with_reducible repeat (first | apply Kd.R_alloc | apply Kd.R_drewN | apply Kd.R_drew)); exact HO351.out) hb); have n8_ := Aside0.mk (Kd.R_below (by (with_reducible repeat (first | apply Kd.R_alloc | apply Kd.R_drewN | apply Kd.R_drew)); exact HO355.out) hb); have n9_ := Aside0.mk (Kd.S_elder' (by (with_reducible repeat (first | apply Kd.S_alloc | apply Kd.S_drewN | apply Kd.S_drew)); exact HO359.out) (Kd.S_base ho0) hb); have n10_ := Aside0.mk (Kd.S_lower (Kd.S_new' (Kd.S_new' (Kd.S_new' (Kd.S_new' (Kd.S_new' (Kd.S_new' (Kd.S_new' (Kd.S_new' ho0 (Kd.R_lt (by (with_reducible repeat (first | apply Kd.R_alloc | apply Kd.R_drewN | apply Kd.R_drew)); exact HO_8.out))) (Kd.R_lt (by (with_reducible repeat (first | apply Kd.R_alloc | apply Kd.R_drewN | apply Kd.R_drew)); exact HO_17.out))) (Kd.R_lt (by (with_reducible repeat (first | apply Kd.R_alloc | apply Kd.R_drewN | apply Kd.R_drew)); exact HO340.out))) (Kd.R_lt (by (with_reducible repeat (first | apply Kd.R_alloc | apply Kd.R_drewN | apply Kd.R_drew)); exact HO343.out))) (Kd.R_lt (by (with_reducible repeat (first | apply Kd.R_alloc | apply Kd.R_drewN | apply Kd.R_drew)); exact HO347.out))) (Kd.R_lt (by (with_reducible repeat (first | apply Kd.R_alloc | apply Kd.R_drewN | apply Kd.R_drew)); exact HO351.out))) (Kd.R_lt (by (with_reducible repeat (first | apply Kd.R_alloc | apply Kd.R_drewN | apply Kd.R_drew)); exact HO355.out))) (Kd.S_lt (by (with_reducible repeat (first | apply Kd.S_alloc | apply Kd.S_drewN | apply Kd.S_drew)); exact HO359.out))) (below_size (by repeat (first | (with_reducible first | exact HB.out | apply below_alloc | apply pw_below_drewN | apply below_drew1) | exact HB.out)))); have n11_ := Aside0.mk (below_step (by repeat (first | (with_reducible first | exact HB.out | apply below_alloc | apply pw_below_drewN | apply below_drew1) | exact HB.out)) hb); clear HO_7; clear HO_8; clear HO_12; clear HO_17; clear HO340; clear HO343; clear HO347; clear HO351; clear HO355; clear HO359; clear HB; have HO_7 := n0_; have HO_8 := n1_; have HO_12 := n2_; have HO_17 := n3_; have HO340 := n4_; have HO343 := n5_; have HO347 := n6_; have HO351 := n7_; have HO355 := n8_; have HO359 := n9_; have HO363 := n10_; have HB := n11_; clear n0_ n1_ n2_ n3_ n4_ n5_ n6_ n7_ n8_ n9_ n10_ n11_; (try clear hb); (try clear hb2); (try clear hk); (try clear hi); (try clear ho0)) | (go_at_call 33; (with_reducible refine (numnahlaw06_mod.calls x16_48 4 t364 _ A70.out).mono ?_); rintro e w' ⟨rfl, ⟨nd, rfl⟩⟩; (try first | exact ⟨rfl, _, World.drewN_drewN _ _ _⟩ | exact ⟨rfl, _, Eq.trans (World.drewN_drewN _ _ _) (congrArg (World.drewN _) (Nat.add_assoc _ _ _))⟩)) | (go_at_call 35; (with_reducible refine (wetting_Fewest.calls t284 _ _ t285 (wrap64 (1 + t364)) t365 t366 _ ?side1 ?side2 A71.out ?sideT).mono ?_); (case sideT => exact tab_of (by repeat (first | (with_reducible first | exact HB.out | apply below_alloc | apply pw_below_drewN | apply below_drew1) | exact HB.out)) HT.out); (case side1 => repeat (first | exact (Kd.R_reads' HO_7.out).2.2 | (with_reducible refine Kd.C_alloc ?_ _) | (with_reducible refine Kd.C_drewN ?_ _) | (with_reducible refine Kd.C_drew ?_))); (case side2 => exact (Kd.R_reads' HO_7.out).2.1); rintro e w84 ⟨v367, rfl, ho0, hb⟩; have n0_ := Aside0.mk (Kd.R_below (by (with_reducible repeat (first | apply Kd.R_alloc | apply Kd.R_drewN | apply Kd.R_drew)); exact HO_7.out) hb); have n1_ := Aside0.mk (Kd.R_elder' (by (with_reducible repeat (first | apply Kd.R_alloc | apply Kd.R_drewN | apply Kd.R_drew)); exact HO_8.out) (Kd.R_base ho0) hb); have n2_ := Aside0.mk (Kd.R_below (by (with_reducible repeat (first | apply Kd.R_alloc | apply Kd.R_drewN | apply Kd.R_drew)); exact HO_12.out) hb); have n3_ := Aside0.mk (Kd.R_elder' (by (with_reducible repeat (first | apply Kd.R_alloc | apply Kd.R_drewN | apply Kd.R_drew)); exact HO_17.out) (Kd.R_base ho0) hb); have n4_ := Aside0.mk (Kd.R_elder' (by (with_reducible repeat (first | apply Kd.R_alloc | apply Kd.R_drewN | apply Kd.R_drew)); exact HO340.out) (Kd.R_base ho0) hb); have n5_ := Aside0.mk (Kd.R_elder' (by (with_reducible repeat (first | apply Kd.R_alloc | apply Kd.R_drewN | apply Kd.R_drew)); exact HO343.out) (Kd.R_base ho0) hb); have n6_ := Aside0.mk (Kd.R_elder' (by (with_reducible repeat (first | apply Kd.R_alloc | apply Kd.R_drewN | apply Kd.R_drew)); exact HO347.out) (Kd.R_base ho0) hb); have n7_ := Aside0.mk (Kd.R_elder' (by (with_reducible repeat (first | apply Kd.R_alloc | apply Kd.R_drewN | apply Kd.R_drew)); exact HO351.out) (Kd.R_base ho0) hb); have n8_ := Aside0.mk (Kd.R_elder' (by (with_reducible repeat (first | apply Kd.R_alloc | apply Kd.R_drewN | apply Kd.R_drew)); exact HO355.out) (Kd.R_base ho0) hb); have n9_ := Aside0.mk (Kd.S_elder' (by (with_reducible repeat (first | apply Kd.S_alloc | apply Kd.S_drewN | apply Kd.S_drew)); exact HO359.out) (Kd.R_base ho0) hb); have n10_ := Aside0.mk (Kd.S_elder' (by (with_reducible repeat (first | apply Kd.S_alloc | apply Kd.S_drewN | apply Kd.S_drew)); exact HO363.out) (Kd.R_base ho0) hb); have n11_ := Aside0.mk (Kd.R_lower (Kd.R_new' (Kd.R_new' (Kd.R_new' (Kd.R_new' (Kd.R_new' (Kd.R_new' (Kd.R_new' ho0 (Kd.R_lt (by (with_reducible repeat (first | apply Kd.R_alloc | apply Kd.R_drewN | apply Kd.R_drew)); exact HO_8.out))) (Kd.R_lt (by (with_reducible repeat (first | apply Kd.R_alloc | apply Kd.R_drewN | apply Kd.R_drew)); exact HO_17.out))) (Kd.R_lt (by (with_reducible repeat (first | apply Kd.R_alloc | apply Kd.R_drewN | apply Kd.R_drew)); exact HO340.out))) (Kd.R_lt (by (with_reducible repeat (first | apply Kd.R_alloc | apply Kd.R_drewN | apply Kd.R_drew)); exact HO343.out))) (Kd.R_lt (by (with_reducible repeat (first | apply Kd.R_alloc | apply Kd.R_drewN | apply Kd.R_drew)); exact HO347.out))) (Kd.R_lt (by (with_reducible repeat (first | apply Kd.R_alloc | apply Kd.R_drewN | apply Kd.R_drew)); exact HO351.out))) (Kd.R_lt (by (with_reducible repeat (first | apply Kd.R_alloc | apply Kd.R_drewN | apply Kd.R_drew)); exact HO355.out))) (below_size (by repeat (first | (with_reducible first | exact HB.out | apply below_alloc | apply pw_below_drewN | apply below_drew1) | exact HB.out)))); have n12_ := Aside0.mk (below_step (by repeat (first | (with_reducible first | exact HB.out | apply below_alloc | apply pw_below_drewN | apply below_drew1) | exact HB.out)) hb); clear HO_7; clear HO_8; clear HO_12; clear HO_17; clear HO340; clear HO343; clear HO347; clear HO351; clear HO355; clear HO359; clear HO363; clear HB; have HO_7 := n0_; have HO_8 := n1_; have HO_12 := n2_; have HO_17 := n3_; have HO340 := n4_; have HO343 := n5_; have HO347 := n6_; have HO351 := n7_; have HO355 := n8_; have HO359 := n9_; have HO363 := n10_; have HO368 := n11_; have HB := n12_; clear n0_ n1_ n2_ n3_ n4_ n5_ n6_ n7_ n8_ n9_ n10_ n11_ n12_; (try clear hb); (try clear hb2); (try clear hk); (try clear hi); (try clear ho0)) | (go_at_call 35; (with_reducible refine (wetting_Fewest.calls t284 _ _ x12_2 (wrap64 (1 + t364)) t369 t370 _ ?side1 ?side2 A72.out ?sideT).mono ?_); (case sideT => exact tab_of (by repeat (first | (with_reducible first | exact HB.out | apply below_alloc | apply pw_below_drewN | apply below_drew1) | exact HB.out)) HT.out); (case side1 => repeat (first | exact (Kd.R_reads' HO_12.out).2.2 | (with_reducible refine Kd.C_alloc ?_ _) | (with_reducible refine Kd.C_drewN ?_ _) | (with_reducible refine Kd.C_drew ?_))); (case side2 => exact (Kd.R_reads' HO_12.out).2.1); rintro e w85 ⟨v371, rfl, ho0, hb⟩; have n0_ := Aside0.mk (Kd.R_below (by (with_reducible repeat (first | apply Kd.R_alloc | apply Kd.R_drewN | apply Kd.R_drew)); exact HO_7.out) hb); have n1_ := Aside0.mk (Kd.R_elder' (by (with_reducible repeat (first | apply Kd.R_alloc | apply Kd.R_drewN | apply Kd.R_drew)); exact HO_8.out) (Kd.R_base ho0) hb); have n2_ := Aside0.mk (Kd.R_below (by (with_reducible repeat (first | apply Kd.R_alloc | apply Kd.R_drewN | apply Kd.R_drew)); exact HO_12.out) hb); have n3_ := Aside0.mk (Kd.R_elder' (by (with_reducible repeat (first | apply Kd.R_alloc | apply Kd.R_drewN | apply Kd.R_drew)); exact HO_17.out) (Kd.R_base ho0) hb); have n4_ := Aside0.mk (Kd.R_elder' (by (with_reducible repeat (first | apply Kd.R_alloc | apply Kd.R_drewN | apply Kd.R_drew)); exact HO340.out) (Kd.R_base ho0) hb); have n5_ := Aside0.mk (Kd.R_elder' (by (with_reducible repeat (first | apply Kd.R_alloc | apply Kd.R_drewN | apply Kd.R_drew)); exact HO343.out) (Kd.R_base ho0) hb); have n6_ := Aside0.mk (Kd.R_elder' (by (with_reducible repeat (first | apply Kd.R_alloc | apply Kd.R_drewN | apply Kd.R_drew)); exact HO347.out) (Kd.R_base ho0) hb); have n7_ := Aside0.mk (Kd.R_elder' (by (with_reducible repeat (first | apply Kd.R_alloc | apply Kd.R_drewN | apply Kd.R_drew)); exact HO351.out) (Kd.R_base ho0) hb); have n8_ := Aside0.mk (Kd.R_elder' (by (with_reducible repeat (first | apply Kd.R_alloc | apply Kd.R_drewN | apply Kd.R_drew)); exact HO355.out) (Kd.R_base ho0) hb); have n9_ := Aside0.mk (Kd.S_elder' (by (with_reducible repeat (first | apply Kd.S_alloc | apply Kd.S_drewN | apply Kd.S_drew)); exact HO359.out) (Kd.R_base ho0) hb); have n10_ := Aside0.mk (Kd.S_elder' (by (with_reducible repeat (first | apply Kd.S_alloc | apply Kd.S_drewN | apply Kd.S_drew)); exact HO363.out) (Kd.R_base ho0) hb); have n11_ := Aside0.mk (Kd.R_elder' (by (with_reducible repeat (first | apply Kd.R_alloc | apply Kd.R_drewN | apply Kd.R_drew)); exact HO368.out) (Kd.R_base ho0) hb); have n12_ := Aside0.mk (Kd.R_lower (Kd.R_new' (Kd.R_new' (Kd.R_new' (Kd.R_new' (Kd.R_new' (Kd.R_new' (Kd.R_new' (Kd.R_new' ho0 (Kd.R_lt (by (with_reducible repeat (first | apply Kd.R_alloc | apply Kd.R_drewN | apply Kd.R_drew)); exact HO_8.out))) (Kd.R_lt (by (with_reducible repeat (first | apply Kd.R_alloc | apply Kd.R_drewN | apply Kd.R_drew)); exact HO_17.out))) (Kd.R_lt (by (with_reducible repeat (first | apply Kd.R_alloc | apply Kd.R_drewN | apply Kd.R_drew)); exact HO340.out))) (Kd.R_lt (by (with_reducible repeat (first | apply Kd.R_alloc | apply Kd.R_drewN | apply Kd.R_drew)); exact HO343.out))) (Kd.R_lt (by (with_reducible repeat (first | apply Kd.R_alloc | apply Kd.R_drewN | apply Kd.R_drew)); exact HO347.out))) (Kd.R_lt (by (with_reducible repeat (first | apply Kd.R_alloc | apply Kd.R_drewN | apply Kd.R_drew)); exact HO351.out))) (Kd.R_lt (by (with_reducible repeat (first | apply Kd.R_alloc | apply Kd.R_drewN | apply Kd.R_drew)); exact HO355.out))) (Kd.R_lt (by (with_reducible repeat (first | apply Kd.R_alloc | apply Kd.R_drewN | apply Kd.R_drew)); exact HO368.out))) (below_size (by repeat (first | (with_reducible first | exact HB.out | apply below_alloc | apply pw_below_drewN | apply below_drew1) | exact HB.out)))); have n13_ := Aside0.mk (below_step (by repeat (first | (with_reducible first | exact HB.out | apply below_alloc | apply pw_below_drewN | apply below_drew1) | exact HB.out)) hb); clear HO_7; clear HO_8; clear HO_12; clear HO_17; clear HO340; clear HO343; clear HO347; clear HO351; clear HO355; clear HO359; clear HO363; clear HO368; clear HB; have HO_7 := n0_; have HO_8 := n1_; have HO_12 := n2_; have HO_17 := n3_; have HO340 := n4_; have HO343 := n5_; have HO347 := n6_; have HO351 := n7_; have HO355 := n8_; have HO359 := n9_; have HO363 := n10_; have HO368 := n11_; have HO372 := n12_; have HB := n13_; clear n0_ n1_ n2_ n3_ n4_ n5_ n6_ n7_ n8_ n9_ n10_ n11_ n12_ n13_; (try clear hb); (try clear hb2); (try clear hk); (try clear hi); (try clear ho0)))
            (try simp only [Act.put, List.setIfInBounds_toArray, List.set_cons_zero, List.set_cons_succ])
            go_cut [231] (fun v231 wc => ∃ (kq : Nat) (x231_72 : Bool), v231 = .bool x231_72 ∧ Aside0 (numnahlaw06_WettingRenamed.j4 kq t284 x8_1 t337 t344 t348 t352 t356 t360 t365 t369 x231_72 = some r) ∧ Aside0 (kq ≤ k4) ∧ Aside0 (Kd.R (Kd.int .i64) 3 wc w.heap.size (fun k_ => some k_ ≠ (v339 : Value).ownBlock ∧ some k_ ≠ (v346 : Value).ownBlock ∧ some k_ ≠ (v350 : Value).ownBlock ∧ some k_ ≠ (v354 : Value).ownBlock ∧ some k_ ≠ (v367 : Value).ownBlock ∧ some k_ ≠ (v371 : Value).ownBlock) u8 x8_1) ∧ Aside0 (Kd.R (Kd.int .i64) 3 wc w.heap.size (fun k_ => some k_ ≠ (u8 : Value).ownBlock ∧ some k_ ≠ (v346 : Value).ownBlock ∧ some k_ ≠ (v350 : Value).ownBlock ∧ some k_ ≠ (v354 : Value).ownBlock ∧ some k_ ≠ (v367 : Value).ownBlock ∧ some k_ ≠ (v371 : Value).ownBlock) v339 t337) ∧ Aside0 (Kd.R (Kd.int .i64) 3 wc w.heap.size (fun k_ => some k_ ≠ (u8 : Value).ownBlock ∧ some k_ ≠ (v339 : Value).ownBlock ∧ some k_ ≠ (v350 : Value).ownBlock ∧ some k_ ≠ (v354 : Value).ownBlock ∧ some k_ ≠ (v367 : Value).ownBlock ∧ some k_ ≠ (v371 : Value).ownBlock) v346 t344) ∧ Aside0 (Kd.R (Kd.int .i64) 3 wc w.heap.size (fun k_ => some k_ ≠ (u8 : Value).ownBlock ∧ some k_ ≠ (v339 : Value).ownBlock ∧ some k_ ≠ (v346 : Value).ownBlock ∧ some k_ ≠ (v354 : Value).ownBlock ∧ some k_ ≠ (v367 : Value).ownBlock ∧ some k_ ≠ (v371 : Value).ownBlock) v350 t348) ∧ Aside0 (Kd.R (Kd.int .i64) 3 wc w.heap.size (fun k_ => some k_ ≠ (u8 : Value).ownBlock ∧ some k_ ≠ (v339 : Value).ownBlock ∧ some k_ ≠ (v346 : Value).ownBlock ∧ some k_ ≠ (v350 : Value).ownBlock ∧ some k_ ≠ (v367 : Value).ownBlock ∧ some k_ ≠ (v371 : Value).ownBlock) v354 t352) ∧ Aside0 (Kd.S (Kd.slice 3 (Kd.int .i64)) 24 wc w.heap.size (fun k_ => some k_ ≠ (u8 : Value).ownBlock ∧ some k_ ≠ (v339 : Value).ownBlock ∧ some k_ ≠ (v346 : Value).ownBlock ∧ some k_ ≠ (v350 : Value).ownBlock ∧ some k_ ≠ (v354 : Value).ownBlock ∧ some k_ ≠ (v362 : Value).ownBlock ∧ some k_ ≠ (v367 : Value).ownBlock ∧ some k_ ≠ (v371 : Value).ownBlock) v358 t356) ∧ Aside0 (Kd.S (Kd.slice 3 (Kd.int .i64)) 24 wc w.heap.size (fun k_ => some k_ ≠ (u8 : Value).ownBlock ∧ some k_ ≠ (v339 : Value).ownBlock ∧ some k_ ≠ (v346 : Value).ownBlock ∧ some k_ ≠ (v350 : Value).ownBlock ∧ some k_ ≠ (v354 : Value).ownBlock ∧ some k_ ≠ (v358 : Value).ownBlock ∧ some k_ ≠ (v367 : Value).ownBlock ∧ some k_ ≠ (v371 : Value).ownBlock) v362 t360) ∧ Aside0 (Kd.R (Kd.int .i64) 3 wc w.heap.size (fun k_ => some k_ ≠ (u8 : Value).ownBlock ∧ some k_ ≠ (v339 : Value).ownBlock ∧ some k_ ≠ (v346 : Value).ownBlock ∧ some k_ ≠ (v350 : Value).ownBlock ∧ some k_ ≠ (v354 : Value).ownBlock ∧ some k_ ≠ (v371 : Value).ownBlock) v367 t365) ∧ Aside0 (Kd.R (Kd.int .i64) 3 wc w.heap.size (fun k_ => some k_ ≠ (u8 : Value).ownBlock ∧ some k_ ≠ (v339 : Value).ownBlock ∧ some k_ ≠ (v346 : Value).ownBlock ∧ some k_ ≠ (v350 : Value).ownBlock ∧ some k_ ≠ (v354 : Value).ownBlock ∧ some k_ ≠ (v367 : Value).ownBlock) v371 t369) ∧ Aside0 (Below w.heap.size w wc))
            case first => as_aux_lemma =>
             have H := HC73.out
             clear HC73
             by_cases c86 : t338 = 0
             ·rw [if_pos c86] at H
              have c86b0 : (t338 == 0) = true := beq_iff_eq.mpr c86
              have c86b1 : (t338 != 0) = false := bne_eq_false_iff_eq.mpr c86
              clear c86
              (first | rw [c86b0] | (simp only [i64_w, i32_w]; rw [c86b0]) | skip)
              by_cases c87 : t345 = 0
              ·rw [if_pos c87] at H
               have c87b0 : (t345 == 0) = true := beq_iff_eq.mpr c87
               have c87b1 : (t345 != 0) = false := bne_eq_false_iff_eq.mpr c87
               clear c87
               by_cases c88 : t349 = 0
               ·rw [if_pos c88] at H
                have c88b0 : (t349 == 0) = true := beq_iff_eq.mpr c88
                have c88b1 : (t349 != 0) = false := bne_eq_false_iff_eq.mpr c88
                clear c88
                by_cases c89 : t353 = 0
                ·rw [if_pos c89] at H
                 have c89b0 : (t353 == 0) = true := beq_iff_eq.mpr c89
                 have c89b1 : (t353 != 0) = false := bne_eq_false_iff_eq.mpr c89
                 clear c89
                 by_cases c90 : t357 = 0
                 ·rw [if_pos c90] at H
                  have c90b0 : (t357 == 0) = true := beq_iff_eq.mpr c90
                  have c90b1 : (t357 != 0) = false := bne_eq_false_iff_eq.mpr c90
                  clear c90
                  by_cases c91 : t361 = 0
                  ·rw [if_pos c91] at H
                   have c91b0 : (t361 == 0) = true := beq_iff_eq.mpr c91
                   have c91b1 : (t361 != 0) = false := bne_eq_false_iff_eq.mpr c91
                   clear c91
                   by_cases c92 : t366 = 0
                   ·rw [if_pos c92] at H
                    have c92b0 : (t366 == 0) = true := beq_iff_eq.mpr c92
                    have c92b1 : (t366 != 0) = false := bne_eq_false_iff_eq.mpr c92
                    clear c92
                    by_cases c93 : t370 = 0
                    ·rw [if_pos c93] at H
                     have c93b0 : (t370 == 0) = true := beq_iff_eq.mpr c93
                     have c93b1 : (t370 != 0) = false := bne_eq_false_iff_eq.mpr c93
                     clear c93
                     by_cases c94 : (t337.length : Int) = t284
                     ·rw [if_pos c94] at H
                      have c94b0 : ((t337.length : Int) == t284) = true := beq_iff_eq.mpr c94
                      have c94b1 : ((t337.length : Int) != t284) = false := bne_eq_false_iff_eq.mpr c94
                      clear c94
                      have H' := Aside0.mk H
                      clear H
                      obtain ⟨Ao95, co95, eo95⟩ := Kd.R_slice HO340.out
                      subst eo95
                      obtain ⟨Ao96, co96, eo96⟩ := Kd.R_slice HO347.out
                      subst eo96
                      go_wp2
                      go_meet
                      case rel => exact ⟨_, (((t344.length : Int) != t284)), (by first | rfl | (simp; done) | (simp [*]; done)), H', ⟨by have := HK1.out; have := HK2.out; have := HJ48.out; have := HK4.out; first | omega | exact Nat.le_refl _⟩, ⟨by (with_reducible repeat (first | apply Kd.R_alloc | apply Kd.R_drewN | apply Kd.R_drew)); exact Kd.R_mono HO_8.out (fun _ hk => ⟨hk.1.1.1.1.1.1.2, ⟨hk.1.1.1.1.2, ⟨hk.1.1.1.2, ⟨hk.1.1.2, ⟨hk.1.2, hk.2⟩⟩⟩⟩⟩)⟩, ⟨by (with_reducible repeat (first | apply Kd.R_alloc | apply Kd.R_drewN | apply Kd.R_drew)); exact Kd.R_mono HO340.out (fun _ hk => ⟨hk.1.1.1.1.1.1.1.2, ⟨hk.1.1.1.1.2, ⟨hk.1.1.1.2, ⟨hk.1.1.2, ⟨hk.1.2, hk.2⟩⟩⟩⟩⟩)⟩, ⟨by (with_reducible repeat (first | apply Kd.R_alloc | apply Kd.R_drewN | apply Kd.R_drew)); exact Kd.R_mono HO347.out (fun _ hk => ⟨hk.1.1.1.1.1.1.1.2, ⟨hk.1.1.1.1.1.2, ⟨hk.1.1.1.2, ⟨hk.1.1.2, ⟨hk.1.2, hk.2⟩⟩⟩⟩⟩)⟩, ⟨by (with_reducible repeat (first | apply Kd.R_alloc | apply Kd.R_drewN | apply Kd.R_drew)); exact Kd.R_mono HO351.out (fun _ hk => ⟨hk.1.1.1.1.1.1.1.2, ⟨hk.1.1.1.1.1.2, ⟨hk.1.1.1.2, ⟨hk.1.1.2, ⟨hk.1.2, hk.2⟩⟩⟩⟩⟩)⟩, ⟨by (with_reducible repeat (first | apply Kd.R_alloc | apply Kd.R_drewN | apply Kd.R_drew)); exact Kd.R_mono HO355.out (fun _ hk => ⟨hk.1.1.1.1.1.1.1.2, ⟨hk.1.1.1.1.1.2, ⟨hk.1.1.1.2, ⟨hk.1.1.2, ⟨hk.1.2, hk.2⟩⟩⟩⟩⟩)⟩, ⟨by (with_reducible repeat (first | apply Kd.S_alloc | apply Kd.S_drewN | apply Kd.S_drew)); exact Kd.S_mono HO359.out (fun _ hk => ⟨hk.1.1.1.1.1.1.1.1.1.2, ⟨hk.1.1.1.1.1.1.1.2, ⟨hk.1.1.1.1.1.2, ⟨hk.1.1.1.1.2, ⟨hk.1.1.1.2, ⟨hk.1.1.2, ⟨hk.1.2, hk.2⟩⟩⟩⟩⟩⟩⟩)⟩, ⟨by (with_reducible repeat (first | apply Kd.S_alloc | apply Kd.S_drewN | apply Kd.S_drew)); exact Kd.S_mono HO363.out (fun _ hk => ⟨hk.1.1.1.1.1.1.1.1.1.2, ⟨hk.1.1.1.1.1.1.1.2, ⟨hk.1.1.1.1.1.2, ⟨hk.1.1.1.1.2, ⟨hk.1.1.1.2, ⟨hk.1.1.2, ⟨hk.1.2, hk.2⟩⟩⟩⟩⟩⟩⟩)⟩, ⟨by (with_reducible repeat (first | apply Kd.R_alloc | apply Kd.R_drewN | apply Kd.R_drew)); exact Kd.R_mono HO368.out (fun _ hk => ⟨hk.1.1.1.1.1.1.1.2, ⟨hk.1.1.1.1.1.2, ⟨hk.1.1.1.2, ⟨hk.1.1.2, ⟨hk.1.2, hk.2⟩⟩⟩⟩⟩)⟩, ⟨by (with_reducible repeat (first | apply Kd.R_alloc | apply Kd.R_drewN | apply Kd.R_drew)); exact Kd.R_mono HO372.out (fun _ hk => ⟨hk.1.1.1.1.1.1.1.2, ⟨hk.1.1.1.1.1.2, ⟨hk.1.1.1.2, ⟨hk.1.1.2, ⟨hk.1.2, hk.2⟩⟩⟩⟩⟩)⟩, ⟨by repeat (first | (with_reducible first | exact HB.out | apply below_alloc | apply pw_below_drewN | apply below_drew1) | exact HB.out)⟩⟩
                     ·rw [if_neg c94] at H
                      have c94b0 : ((t337.length : Int) == t284) = false := beq_eq_false_iff_ne.mpr c94
                      have c94b1 : ((t337.length : Int) != t284) = true := bne_iff_ne.mpr c94
                      have H' := Aside0.mk H
                      clear H
                      obtain ⟨Ao97, co97, eo97⟩ := Kd.R_slice HO340.out
                      subst eo97
                      go_wp2
                      go_meet
                      case rel => exact ⟨_, (true), (by first | rfl | (simp; done) | (simp [*]; done)), H', ⟨by have := HK1.out; have := HK2.out; have := HJ48.out; have := HK4.out; first | omega | exact Nat.le_refl _⟩, ⟨by (with_reducible repeat (first | apply Kd.R_alloc | apply Kd.R_drewN | apply Kd.R_drew)); exact Kd.R_mono HO_8.out (fun _ hk => ⟨hk.1.1.1.1.1.1.2, ⟨hk.1.1.1.1.2, ⟨hk.1.1.1.2, ⟨hk.1.1.2, ⟨hk.1.2, hk.2⟩⟩⟩⟩⟩)⟩, ⟨by (with_reducible repeat (first | apply Kd.R_alloc | apply Kd.R_drewN | apply Kd.R_drew)); exact Kd.R_mono HO340.out (fun _ hk => ⟨hk.1.1.1.1.1.1.1.2, ⟨hk.1.1.1.1.2, ⟨hk.1.1.1.2, ⟨hk.1.1.2, ⟨hk.1.2, hk.2⟩⟩⟩⟩⟩)⟩, ⟨by (with_reducible repeat (first | apply Kd.R_alloc | apply Kd.R_drewN | apply Kd.R_drew)); exact Kd.R_mono HO347.out (fun _ hk => ⟨hk.1.1.1.1.1.1.1.2, ⟨hk.1.1.1.1.1.2, ⟨hk.1.1.1.2, ⟨hk.1.1.2, ⟨hk.1.2, hk.2⟩⟩⟩⟩⟩)⟩, ⟨by (with_reducible repeat (first | apply Kd.R_alloc | apply Kd.R_drewN | apply Kd.R_drew)); exact Kd.R_mono HO351.out (fun _ hk => ⟨hk.1.1.1.1.1.1.1.2, ⟨hk.1.1.1.1.1.2, ⟨hk.1.1.1.2, ⟨hk.1.1.2, ⟨hk.1.2, hk.2⟩⟩⟩⟩⟩)⟩, ⟨by (with_reducible repeat (first | apply Kd.R_alloc | apply Kd.R_drewN | apply Kd.R_drew)); exact Kd.R_mono HO355.out (fun _ hk => ⟨hk.1.1.1.1.1.1.1.2, ⟨hk.1.1.1.1.1.2, ⟨hk.1.1.1.2, ⟨hk.1.1.2, ⟨hk.1.2, hk.2⟩⟩⟩⟩⟩)⟩, ⟨by (with_reducible repeat (first | apply Kd.S_alloc | apply Kd.S_drewN | apply Kd.S_drew)); exact Kd.S_mono HO359.out (fun _ hk => ⟨hk.1.1.1.1.1.1.1.1.1.2, ⟨hk.1.1.1.1.1.1.1.2, ⟨hk.1.1.1.1.1.2, ⟨hk.1.1.1.1.2, ⟨hk.1.1.1.2, ⟨hk.1.1.2, ⟨hk.1.2, hk.2⟩⟩⟩⟩⟩⟩⟩)⟩, ⟨by (with_reducible repeat (first | apply Kd.S_alloc | apply Kd.S_drewN | apply Kd.S_drew)); exact Kd.S_mono HO363.out (fun _ hk => ⟨hk.1.1.1.1.1.1.1.1.1.2, ⟨hk.1.1.1.1.1.1.1.2, ⟨hk.1.1.1.1.1.2, ⟨hk.1.1.1.1.2, ⟨hk.1.1.1.2, ⟨hk.1.1.2, ⟨hk.1.2, hk.2⟩⟩⟩⟩⟩⟩⟩)⟩, ⟨by (with_reducible repeat (first | apply Kd.R_alloc | apply Kd.R_drewN | apply Kd.R_drew)); exact Kd.R_mono HO368.out (fun _ hk => ⟨hk.1.1.1.1.1.1.1.2, ⟨hk.1.1.1.1.1.2, ⟨hk.1.1.1.2, ⟨hk.1.1.2, ⟨hk.1.2, hk.2⟩⟩⟩⟩⟩)⟩, ⟨by (with_reducible repeat (first | apply Kd.R_alloc | apply Kd.R_drewN | apply Kd.R_drew)); exact Kd.R_mono HO372.out (fun _ hk => ⟨hk.1.1.1.1.1.1.1.2, ⟨hk.1.1.1.1.1.2, ⟨hk.1.1.1.2, ⟨hk.1.1.2, ⟨hk.1.2, hk.2⟩⟩⟩⟩⟩)⟩, ⟨by repeat (first | (with_reducible first | exact HB.out | apply below_alloc | apply pw_below_drewN | apply below_drew1) | exact HB.out)⟩⟩
                    ·rw [if_neg c93] at H
                     have c93b0 : (t370 == 0) = false := beq_eq_false_iff_ne.mpr c93
                     have c93b1 : (t370 != 0) = true := bne_iff_ne.mpr c93
                     have H' := Aside0.mk H
                     clear H
                     go_wp2
                     go_meet
                     case rel => exact ⟨_, (true), (by first | rfl | (simp; done) | (simp [*]; done)), H', ⟨by have := HK1.out; have := HK2.out; have := HJ48.out; have := HK4.out; first | omega | exact Nat.le_refl _⟩, ⟨by (with_reducible repeat (first | apply Kd.R_alloc | apply Kd.R_drewN | apply Kd.R_drew)); exact Kd.R_mono HO_8.out (fun _ hk => ⟨hk.1.1.1.1.1.1.2, ⟨hk.1.1.1.1.2, ⟨hk.1.1.1.2, ⟨hk.1.1.2, ⟨hk.1.2, hk.2⟩⟩⟩⟩⟩)⟩, ⟨by (with_reducible repeat (first | apply Kd.R_alloc | apply Kd.R_drewN | apply Kd.R_drew)); exact Kd.R_mono HO340.out (fun _ hk => ⟨hk.1.1.1.1.1.1.1.2, ⟨hk.1.1.1.1.2, ⟨hk.1.1.1.2, ⟨hk.1.1.2, ⟨hk.1.2, hk.2⟩⟩⟩⟩⟩)⟩, ⟨by (with_reducible repeat (first | apply Kd.R_alloc | apply Kd.R_drewN | apply Kd.R_drew)); exact Kd.R_mono HO347.out (fun _ hk => ⟨hk.1.1.1.1.1.1.1.2, ⟨hk.1.1.1.1.1.2, ⟨hk.1.1.1.2, ⟨hk.1.1.2, ⟨hk.1.2, hk.2⟩⟩⟩⟩⟩)⟩, ⟨by (with_reducible repeat (first | apply Kd.R_alloc | apply Kd.R_drewN | apply Kd.R_drew)); exact Kd.R_mono HO351.out (fun _ hk => ⟨hk.1.1.1.1.1.1.1.2, ⟨hk.1.1.1.1.1.2, ⟨hk.1.1.1.2, ⟨hk.1.1.2, ⟨hk.1.2, hk.2⟩⟩⟩⟩⟩)⟩, ⟨by (with_reducible repeat (first | apply Kd.R_alloc | apply Kd.R_drewN | apply Kd.R_drew)); exact Kd.R_mono HO355.out (fun _ hk => ⟨hk.1.1.1.1.1.1.1.2, ⟨hk.1.1.1.1.1.2, ⟨hk.1.1.1.2, ⟨hk.1.1.2, ⟨hk.1.2, hk.2⟩⟩⟩⟩⟩)⟩, ⟨by (with_reducible repeat (first | apply Kd.S_alloc | apply Kd.S_drewN | apply Kd.S_drew)); exact Kd.S_mono HO359.out (fun _ hk => ⟨hk.1.1.1.1.1.1.1.1.1.2, ⟨hk.1.1.1.1.1.1.1.2, ⟨hk.1.1.1.1.1.2, ⟨hk.1.1.1.1.2, ⟨hk.1.1.1.2, ⟨hk.1.1.2, ⟨hk.1.2, hk.2⟩⟩⟩⟩⟩⟩⟩)⟩, ⟨by (with_reducible repeat (first | apply Kd.S_alloc | apply Kd.S_drewN | apply Kd.S_drew)); exact Kd.S_mono HO363.out (fun _ hk => ⟨hk.1.1.1.1.1.1.1.1.1.2, ⟨hk.1.1.1.1.1.1.1.2, ⟨hk.1.1.1.1.1.2, ⟨hk.1.1.1.1.2, ⟨hk.1.1.1.2, ⟨hk.1.1.2, ⟨hk.1.2, hk.2⟩⟩⟩⟩⟩⟩⟩)⟩, ⟨by (with_reducible repeat (first | apply Kd.R_alloc | apply Kd.R_drewN | apply Kd.R_drew)); exact Kd.R_mono HO368.out (fun _ hk => ⟨hk.1.1.1.1.1.1.1.2, ⟨hk.1.1.1.1.1.2, ⟨hk.1.1.1.2, ⟨hk.1.1.2, ⟨hk.1.2, hk.2⟩⟩⟩⟩⟩)⟩, ⟨by (with_reducible repeat (first | apply Kd.R_alloc | apply Kd.R_drewN | apply Kd.R_drew)); exact Kd.R_mono HO372.out (fun _ hk => ⟨hk.1.1.1.1.1.1.1.2, ⟨hk.1.1.1.1.1.2, ⟨hk.1.1.1.2, ⟨hk.1.1.2, ⟨hk.1.2, hk.2⟩⟩⟩⟩⟩)⟩, ⟨by repeat (first | (with_reducible first | exact HB.out | apply below_alloc | apply pw_below_drewN | apply below_drew1) | exact HB.out)⟩⟩
                   ·rw [if_neg c92] at H
                    have c92b0 : (t366 == 0) = false := beq_eq_false_iff_ne.mpr c92
                    have c92b1 : (t366 != 0) = true := bne_iff_ne.mpr c92
                    have H' := Aside0.mk H
                    clear H
                    go_wp2
                    go_meet
                    case rel => exact ⟨_, (true), (by first | rfl | (simp; done) | (simp [*]; done)), H', ⟨by have := HK1.out; have := HK2.out; have := HJ48.out; have := HK4.out; first | omega | exact Nat.le_refl _⟩, ⟨by (with_reducible repeat (first | apply Kd.R_alloc | apply Kd.R_drewN | apply Kd.R_drew)); exact Kd.R_mono HO_8.out (fun _ hk => ⟨hk.1.1.1.1.1.1.2, ⟨hk.1.1.1.1.2, ⟨hk.1.1.1.2, ⟨hk.1.1.2, ⟨hk.1.2, hk.2⟩⟩⟩⟩⟩)⟩, ⟨by (with_reducible repeat (first | apply Kd.R_alloc | apply Kd.R_drewN | apply Kd.R_drew)); exact Kd.R_mono HO340.out (fun _ hk => ⟨hk.1.1.1.1.1.1.1.2, ⟨hk.1.1.1.1.2, ⟨hk.1.1.1.2, ⟨hk.1.1.2, ⟨hk.1.2, hk.2⟩⟩⟩⟩⟩)⟩, ⟨by (with_reducible repeat (first | apply Kd.R_alloc | apply Kd.R_drewN | apply Kd.R_drew)); exact Kd.R_mono HO347.out (fun _ hk => ⟨hk.1.1.1.1.1.1.1.2, ⟨hk.1.1.1.1.1.2, ⟨hk.1.1.1.2, ⟨hk.1.1.2, ⟨hk.1.2, hk.2⟩⟩⟩⟩⟩)⟩, ⟨by (with_reducible repeat (first | apply Kd.R_alloc | apply Kd.R_drewN | apply Kd.R_drew)); exact Kd.R_mono HO351.out (fun _ hk => ⟨hk.1.1.1.1.1.1.1.2, ⟨hk.1.1.1.1.1.2, ⟨hk.1.1.1.2, ⟨hk.1.1.2, ⟨hk.1.2, hk.2⟩⟩⟩⟩⟩)⟩, ⟨by (with_reducible repeat (first | apply Kd.R_alloc | apply Kd.R_drewN | apply Kd.R_drew)); exact Kd.R_mono HO355.out (fun _ hk => ⟨hk.1.1.1.1.1.1.1.2, ⟨hk.1.1.1.1.1.2, ⟨hk.1.1.1.2, ⟨hk.1.1.2, ⟨hk.1.2, hk.2⟩⟩⟩⟩⟩)⟩, ⟨by (with_reducible repeat (first | apply Kd.S_alloc | apply Kd.S_drewN | apply Kd.S_drew)); exact Kd.S_mono HO359.out (fun _ hk => ⟨hk.1.1.1.1.1.1.1.1.1.2, ⟨hk.1.1.1.1.1.1.1.2, ⟨hk.1.1.1.1.1.2, ⟨hk.1.1.1.1.2, ⟨hk.1.1.1.2, ⟨hk.1.1.2, ⟨hk.1.2, hk.2⟩⟩⟩⟩⟩⟩⟩)⟩, ⟨by (with_reducible repeat (first | apply Kd.S_alloc | apply Kd.S_drewN | apply Kd.S_drew)); exact Kd.S_mono HO363.out (fun _ hk => ⟨hk.1.1.1.1.1.1.1.1.1.2, ⟨hk.1.1.1.1.1.1.1.2, ⟨hk.1.1.1.1.1.2, ⟨hk.1.1.1.1.2, ⟨hk.1.1.1.2, ⟨hk.1.1.2, ⟨hk.1.2, hk.2⟩⟩⟩⟩⟩⟩⟩)⟩, ⟨by (with_reducible repeat (first | apply Kd.R_alloc | apply Kd.R_drewN | apply Kd.R_drew)); exact Kd.R_mono HO368.out (fun _ hk => ⟨hk.1.1.1.1.1.1.1.2, ⟨hk.1.1.1.1.1.2, ⟨hk.1.1.1.2, ⟨hk.1.1.2, ⟨hk.1.2, hk.2⟩⟩⟩⟩⟩)⟩, ⟨by (with_reducible repeat (first | apply Kd.R_alloc | apply Kd.R_drewN | apply Kd.R_drew)); exact Kd.R_mono HO372.out (fun _ hk => ⟨hk.1.1.1.1.1.1.1.2, ⟨hk.1.1.1.1.1.2, ⟨hk.1.1.1.2, ⟨hk.1.1.2, ⟨hk.1.2, hk.2⟩⟩⟩⟩⟩)⟩, ⟨by repeat (first | (with_reducible first | exact HB.out | apply below_alloc | apply pw_below_drewN | apply below_drew1) | exact HB.out)⟩⟩
                  ·rw [if_neg c91] at H
                   have c91b0 : (t361 == 0) = false := beq_eq_false_iff_ne.mpr c91
                   have c91b1 : (t361 != 0) = true := bne_iff_ne.mpr c91
                   have H' := Aside0.mk H
                   clear H
                   go_wp2
                   go_meet
                   case rel => exact ⟨_, (true), (by first | rfl | (simp; done) | (simp [*]; done)), H', ⟨by have := HK1.out; have := HK2.out; have := HJ48.out; have := HK4.out; first | omega | exact Nat.le_refl _⟩, ⟨by (with_reducible repeat (first | apply Kd.R_alloc | apply Kd.R_drewN | apply Kd.R_drew)); exact Kd.R_mono HO_8.out (fun _ hk => ⟨hk.1.1.1.1.1.1.2, ⟨hk.1.1.1.1.2, ⟨hk.1.1.1.2, ⟨hk.1.1.2, ⟨hk.1.2, hk.2⟩⟩⟩⟩⟩)⟩, ⟨by (with_reducible repeat (first | apply Kd.R_alloc | apply Kd.R_drewN | apply Kd.R_drew)); exact Kd.R_mono HO340.out (fun _ hk => ⟨hk.1.1.1.1.1.1.1.2, ⟨hk.1.1.1.1.2, ⟨hk.1.1.1.2, ⟨hk.1.1.2, ⟨hk.1.2, hk.2⟩⟩⟩⟩⟩)⟩, ⟨by (with_reducible repeat (first | apply Kd.R_alloc | apply Kd.R_drewN | apply Kd.R_drew)); exact Kd.R_mono HO347.out (fun _ hk => ⟨hk.1.1.1.1.1.1.1.2, ⟨hk.1.1.1.1.1.2, ⟨hk.1.1.1.2, ⟨hk.1.1.2, ⟨hk.1.2, hk.2⟩⟩⟩⟩⟩)⟩, ⟨by (with_reducible repeat (first | apply Kd.R_alloc | apply Kd.R_drewN | apply Kd.R_drew)); exact Kd.R_mono HO351.out (fun _ hk => ⟨hk.1.1.1.1.1.1.1.2, ⟨hk.1.1.1.1.1.2, ⟨hk.1.1.1.2, ⟨hk.1.1.2, ⟨hk.1.2, hk.2⟩⟩⟩⟩⟩)⟩, ⟨by (with_reducible repeat (first | apply Kd.R_alloc | apply Kd.R_drewN | apply Kd.R_drew)); exact Kd.R_mono HO355.out (fun _ hk => ⟨hk.1.1.1.1.1.1.1.2, ⟨hk.1.1.1.1.1.2, ⟨hk.1.1.1.2, ⟨hk.1.1.2, ⟨hk.1.2, hk.2⟩⟩⟩⟩⟩)⟩, ⟨by (with_reducible repeat (first | apply Kd.S_alloc | apply Kd.S_drewN | apply Kd.S_drew)); exact Kd.S_mono HO359.out (fun _ hk => ⟨hk.1.1.1.1.1.1.1.1.1.2, ⟨hk.1.1.1.1.1.1.1.2, ⟨hk.1.1.1.1.1.2, ⟨hk.1.1.1.1.2, ⟨hk.1.1.1.2, ⟨hk.1.1.2, ⟨hk.1.2, hk.2⟩⟩⟩⟩⟩⟩⟩)⟩, ⟨by (with_reducible repeat (first | apply Kd.S_alloc | apply Kd.S_drewN | apply Kd.S_drew)); exact Kd.S_mono HO363.out (fun _ hk => ⟨hk.1.1.1.1.1.1.1.1.1.2, ⟨hk.1.1.1.1.1.1.1.2, ⟨hk.1.1.1.1.1.2, ⟨hk.1.1.1.1.2, ⟨hk.1.1.1.2, ⟨hk.1.1.2, ⟨hk.1.2, hk.2⟩⟩⟩⟩⟩⟩⟩)⟩, ⟨by (with_reducible repeat (first | apply Kd.R_alloc | apply Kd.R_drewN | apply Kd.R_drew)); exact Kd.R_mono HO368.out (fun _ hk => ⟨hk.1.1.1.1.1.1.1.2, ⟨hk.1.1.1.1.1.2, ⟨hk.1.1.1.2, ⟨hk.1.1.2, ⟨hk.1.2, hk.2⟩⟩⟩⟩⟩)⟩, ⟨by (with_reducible repeat (first | apply Kd.R_alloc | apply Kd.R_drewN | apply Kd.R_drew)); exact Kd.R_mono HO372.out (fun _ hk => ⟨hk.1.1.1.1.1.1.1.2, ⟨hk.1.1.1.1.1.2, ⟨hk.1.1.1.2, ⟨hk.1.1.2, ⟨hk.1.2, hk.2⟩⟩⟩⟩⟩)⟩, ⟨by repeat (first | (with_reducible first | exact HB.out | apply below_alloc | apply pw_below_drewN | apply below_drew1) | exact HB.out)⟩⟩
                 ·rw [if_neg c90] at H
                  have c90b0 : (t357 == 0) = false := beq_eq_false_iff_ne.mpr c90
                  have c90b1 : (t357 != 0) = true := bne_iff_ne.mpr c90
                  have H' := Aside0.mk H
                  clear H
                  go_wp2
                  go_meet
                  case rel => exact ⟨_, (true), (by first | rfl | (simp; done) | (simp [*]; done)), H', ⟨by have := HK1.out; have := HK2.out; have := HJ48.out; have := HK4.out; first | omega | exact Nat.le_refl _⟩, ⟨by (with_reducible repeat (first | apply Kd.R_alloc | apply Kd.R_drewN | apply Kd.R_drew)); exact Kd.R_mono HO_8.out (fun _ hk => ⟨hk.1.1.1.1.1.1.2, ⟨hk.1.1.1.1.2, ⟨hk.1.1.1.2, ⟨hk.1.1.2, ⟨hk.1.2, hk.2⟩⟩⟩⟩⟩)⟩, ⟨by (with_reducible repeat (first | apply Kd.R_alloc | apply Kd.R_drewN | apply Kd.R_drew)); exact Kd.R_mono HO340.out (fun _ hk => ⟨hk.1.1.1.1.1.1.1.2, ⟨hk.1.1.1.1.2, ⟨hk.1.1.1.2, ⟨hk.1.1.2, ⟨hk.1.2, hk.2⟩⟩⟩⟩⟩)⟩, ⟨by (with_reducible repeat (first | apply Kd.R_alloc | apply Kd.R_drewN | apply Kd.R_drew)); exact Kd.R_mono HO347.out (fun _ hk => ⟨hk.1.1.1.1.1.1.1.2, ⟨hk.1.1.1.1.1.2, ⟨hk.1.1.1.2, ⟨hk.1.1.2, ⟨hk.1.2, hk.2⟩⟩⟩⟩⟩)⟩, ⟨by (with_reducible repeat (first | apply Kd.R_alloc | apply Kd.R_drewN | apply Kd.R_drew)); exact Kd.R_mono HO351.out (fun _ hk => ⟨hk.1.1.1.1.1.1.1.2, ⟨hk.1.1.1.1.1.2, ⟨hk.1.1.1.2, ⟨hk.1.1.2, ⟨hk.1.2, hk.2⟩⟩⟩⟩⟩)⟩, ⟨by (with_reducible repeat (first | apply Kd.R_alloc | apply Kd.R_drewN | apply Kd.R_drew)); exact Kd.R_mono HO355.out (fun _ hk => ⟨hk.1.1.1.1.1.1.1.2, ⟨hk.1.1.1.1.1.2, ⟨hk.1.1.1.2, ⟨hk.1.1.2, ⟨hk.1.2, hk.2⟩⟩⟩⟩⟩)⟩, ⟨by (with_reducible repeat (first | apply Kd.S_alloc | apply Kd.S_drewN | apply Kd.S_drew)); exact Kd.S_mono HO359.out (fun _ hk => ⟨hk.1.1.1.1.1.1.1.1.1.2, ⟨hk.1.1.1.1.1.1.1.2, ⟨hk.1.1.1.1.1.2, ⟨hk.1.1.1.1.2, ⟨hk.1.1.1.2, ⟨hk.1.1.2, ⟨hk.1.2, hk.2⟩⟩⟩⟩⟩⟩⟩)⟩, ⟨by (with_reducible repeat (first | apply Kd.S_alloc | apply Kd.S_drewN | apply Kd.S_drew)); exact Kd.S_mono HO363.out (fun _ hk => ⟨hk.1.1.1.1.1.1.1.1.1.2, ⟨hk.1.1.1.1.1.1.1.2, ⟨hk.1.1.1.1.1.2, ⟨hk.1.1.1.1.2, ⟨hk.1.1.1.2, ⟨hk.1.1.2, ⟨hk.1.2, hk.2⟩⟩⟩⟩⟩⟩⟩)⟩, ⟨by (with_reducible repeat (first | apply Kd.R_alloc | apply Kd.R_drewN | apply Kd.R_drew)); exact Kd.R_mono HO368.out (fun _ hk => ⟨hk.1.1.1.1.1.1.1.2, ⟨hk.1.1.1.1.1.2, ⟨hk.1.1.1.2, ⟨hk.1.1.2, ⟨hk.1.2, hk.2⟩⟩⟩⟩⟩)⟩, ⟨by (with_reducible repeat (first | apply Kd.R_alloc | apply Kd.R_drewN | apply Kd.R_drew)); exact Kd.R_mono HO372.out (fun _ hk => ⟨hk.1.1.1.1.1.1.1.2, ⟨hk.1.1.1.1.1.2, ⟨hk.1.1.1.2, ⟨hk.1.1.2, ⟨hk.1.2, hk.2⟩⟩⟩⟩⟩)⟩, ⟨by repeat (first | (with_reducible first | exact HB.out | apply below_alloc | apply pw_below_drewN | apply below_drew1) | exact HB.out)⟩⟩
                ·rw [if_neg c89] at H
                 have c89b0 : (t353 == 0) = false := beq_eq_false_iff_ne.mpr c89
                 have c89b1 : (t353 != 0) = true := bne_iff_ne.mpr c89
                 have H' := Aside0.mk H
                 clear H
                 go_wp2
                 go_meet
                 case rel => exact ⟨_, (true), (by first | rfl | (simp; done) | (simp [*]; done)), H', ⟨by have := HK1.out; have := HK2.out; have := HJ48.out; have := HK4.out; first | omega | exact Nat.le_refl _⟩, ⟨by (with_reducible repeat (first | apply Kd.R_alloc | apply Kd.R_drewN | apply Kd.R_drew)); exact Kd.R_mono HO_8.out (fun _ hk => ⟨hk.1.1.1.1.1.1.2, ⟨hk.1.1.1.1.2, ⟨hk.1.1.1.2, ⟨hk.1.1.2, ⟨hk.1.2, hk.2⟩⟩⟩⟩⟩)⟩, ⟨by (with_reducible repeat (first | apply Kd.R_alloc | apply Kd.R_drewN | apply Kd.R_drew)); exact Kd.R_mono HO340.out (fun _ hk => ⟨hk.1.1.1.1.1.1.1.2, ⟨hk.1.1.1.1.2, ⟨hk.1.1.1.2, ⟨hk.1.1.2, ⟨hk.1.2, hk.2⟩⟩⟩⟩⟩)⟩, ⟨by (with_reducible repeat (first | apply Kd.R_alloc | apply Kd.R_drewN | apply Kd.R_drew)); exact Kd.R_mono HO347.out (fun _ hk => ⟨hk.1.1.1.1.1.1.1.2, ⟨hk.1.1.1.1.1.2, ⟨hk.1.1.1.2, ⟨hk.1.1.2, ⟨hk.1.2, hk.2⟩⟩⟩⟩⟩)⟩, ⟨by (with_reducible repeat (first | apply Kd.R_alloc | apply Kd.R_drewN | apply Kd.R_drew)); exact Kd.R_mono HO351.out (fun _ hk => ⟨hk.1.1.1.1.1.1.1.2, ⟨hk.1.1.1.1.1.2, ⟨hk.1.1.1.2, ⟨hk.1.1.2, ⟨hk.1.2, hk.2⟩⟩⟩⟩⟩)⟩, ⟨by (with_reducible repeat (first | apply Kd.R_alloc | apply Kd.R_drewN | apply Kd.R_drew)); exact Kd.R_mono HO355.out (fun _ hk => ⟨hk.1.1.1.1.1.1.1.2, ⟨hk.1.1.1.1.1.2, ⟨hk.1.1.1.2, ⟨hk.1.1.2, ⟨hk.1.2, hk.2⟩⟩⟩⟩⟩)⟩, ⟨by (with_reducible repeat (first | apply Kd.S_alloc | apply Kd.S_drewN | apply Kd.S_drew)); exact Kd.S_mono HO359.out (fun _ hk => ⟨hk.1.1.1.1.1.1.1.1.1.2, ⟨hk.1.1.1.1.1.1.1.2, ⟨hk.1.1.1.1.1.2, ⟨hk.1.1.1.1.2, ⟨hk.1.1.1.2, ⟨hk.1.1.2, ⟨hk.1.2, hk.2⟩⟩⟩⟩⟩⟩⟩)⟩, ⟨by (with_reducible repeat (first | apply Kd.S_alloc | apply Kd.S_drewN | apply Kd.S_drew)); exact Kd.S_mono HO363.out (fun _ hk => ⟨hk.1.1.1.1.1.1.1.1.1.2, ⟨hk.1.1.1.1.1.1.1.2, ⟨hk.1.1.1.1.1.2, ⟨hk.1.1.1.1.2, ⟨hk.1.1.1.2, ⟨hk.1.1.2, ⟨hk.1.2, hk.2⟩⟩⟩⟩⟩⟩⟩)⟩, ⟨by (with_reducible repeat (first | apply Kd.R_alloc | apply Kd.R_drewN | apply Kd.R_drew)); exact Kd.R_mono HO368.out (fun _ hk => ⟨hk.1.1.1.1.1.1.1.2, ⟨hk.1.1.1.1.1.2, ⟨hk.1.1.1.2, ⟨hk.1.1.2, ⟨hk.1.2, hk.2⟩⟩⟩⟩⟩)⟩, ⟨by (with_reducible repeat (first | apply Kd.R_alloc | apply Kd.R_drewN | apply Kd.R_drew)); exact Kd.R_mono HO372.out (fun _ hk => ⟨hk.1.1.1.1.1.1.1.2, ⟨hk.1.1.1.1.1.2, ⟨hk.1.1.1.2, ⟨hk.1.1.2, ⟨hk.1.2, hk.2⟩⟩⟩⟩⟩)⟩, ⟨by repeat (first | (with_reducible first | exact HB.out | apply below_alloc | apply pw_below_drewN | apply below_drew1) | exact HB.out)⟩⟩
               ·rw [if_neg c88] at H
                have c88b0 : (t349 == 0) = false := beq_eq_false_iff_ne.mpr c88
                have c88b1 : (t349 != 0) = true := bne_iff_ne.mpr c88
                have H' := Aside0.mk H
                clear H
                go_wp2
                go_meet
                case rel => exact ⟨_, (true), (by first | rfl | (simp; done) | (simp [*]; done)), H', ⟨by have := HK1.out; have := HK2.out; have := HJ48.out; have := HK4.out; first | omega | exact Nat.le_refl _⟩, ⟨by (with_reducible repeat (first | apply Kd.R_alloc | apply Kd.R_drewN | apply Kd.R_drew)); exact Kd.R_mono HO_8.out (fun _ hk => ⟨hk.1.1.1.1.1.1.2, ⟨hk.1.1.1.1.2, ⟨hk.1.1.1.2, ⟨hk.1.1.2, ⟨hk.1.2, hk.2⟩⟩⟩⟩⟩)⟩, ⟨by (with_reducible repeat (first | apply Kd.R_alloc | apply Kd.R_drewN | apply Kd.R_drew)); exact Kd.R_mono HO340.out (fun _ hk => ⟨hk.1.1.1.1.1.1.1.2, ⟨hk.1.1.1.1.2, ⟨hk.1.1.1.2, ⟨hk.1.1.2, ⟨hk.1.2, hk.2⟩⟩⟩⟩⟩)⟩, ⟨by (with_reducible repeat (first | apply Kd.R_alloc | apply Kd.R_drewN | apply Kd.R_drew)); exact Kd.R_mono HO347.out (fun _ hk => ⟨hk.1.1.1.1.1.1.1.2, ⟨hk.1.1.1.1.1.2, ⟨hk.1.1.1.2, ⟨hk.1.1.2, ⟨hk.1.2, hk.2⟩⟩⟩⟩⟩)⟩, ⟨by (with_reducible repeat (first | apply Kd.R_alloc | apply Kd.R_drewN | apply Kd.R_drew)); exact Kd.R_mono HO351.out (fun _ hk => ⟨hk.1.1.1.1.1.1.1.2, ⟨hk.1.1.1.1.1.2, ⟨hk.1.1.1.2, ⟨hk.1.1.2, ⟨hk.1.2, hk.2⟩⟩⟩⟩⟩)⟩, ⟨by (with_reducible repeat (first | apply Kd.R_alloc | apply Kd.R_drewN | apply Kd.R_drew)); exact Kd.R_mono HO355.out (fun _ hk => ⟨hk.1.1.1.1.1.1.1.2, ⟨hk.1.1.1.1.1.2, ⟨hk.1.1.1.2, ⟨hk.1.1.2, ⟨hk.1.2, hk.2⟩⟩⟩⟩⟩)⟩, ⟨by (with_reducible repeat (first | apply Kd.S_alloc | apply Kd.S_drewN | apply Kd.S_drew)); exact Kd.S_mono HO359.out (fun _ hk => ⟨hk.1.1.1.1.1.1.1.1.1.2, ⟨hk.1.1.1.1.1.1.1.2, ⟨hk.1.1.1.1.1.2, ⟨hk.1.1.1.1.2, ⟨hk.1.1.1.2, ⟨hk.1.1.2, ⟨hk.1.2, hk.2⟩⟩⟩⟩⟩⟩⟩)⟩, ⟨by (with_reducible repeat (first | apply Kd.S_alloc | apply Kd.S_drewN | apply Kd.S_drew)); exact Kd.S_mono HO363.out (fun _ hk => ⟨hk.1.1.1.1.1.1.1.1.1.2, ⟨hk.1.1.1.1.1.1.1.2, ⟨hk.1.1.1.1.1.2, ⟨hk.1.1.1.1.2, ⟨hk.1.1.1.2, ⟨hk.1.1.2, ⟨hk.1.2, hk.2⟩⟩⟩⟩⟩⟩⟩)⟩, ⟨by (with_reducible repeat (first | apply Kd.R_alloc | apply Kd.R_drewN | apply Kd.R_drew)); exact Kd.R_mono HO368.out (fun _ hk => ⟨hk.1.1.1.1.1.1.1.2, ⟨hk.1.1.1.1.1.2, ⟨hk.1.1.1.2, ⟨hk.1.1.2, ⟨hk.1.2, hk.2⟩⟩⟩⟩⟩)⟩, ⟨by (with_reducible repeat (first | apply Kd.R_alloc | apply Kd.R_drewN | apply Kd.R_drew)); exact Kd.R_mono HO372.out (fun _ hk => ⟨hk.1.1.1.1.1.1.1.2, ⟨hk.1.1.1.1.1.2, ⟨hk.1.1.1.2, ⟨hk.1.1.2, ⟨hk.1.2, hk.2⟩⟩⟩⟩⟩)⟩, ⟨by repeat (first | (with_reducible first | exact HB.out | apply below_alloc | apply pw_below_drewN | apply below_drew1) | exact HB.out)⟩⟩
              ·rw [if_neg c87] at H
               have c87b0 : (t345 == 0) = false := beq_eq_false_iff_ne.mpr c87
               have c87b1 : (t345 != 0) = true := bne_iff_ne.mpr c87
               have H' := Aside0.mk H
               clear H
               go_wp2
               go_meet
               case rel => exact ⟨_, (true), (by first | rfl | (simp; done) | (simp [*]; done)), H', ⟨by have := HK1.out; have := HK2.out; have := HJ48.out; have := HK4.out; first | omega | exact Nat.le_refl _⟩, ⟨by (with_reducible repeat (first | apply Kd.R_alloc | apply Kd.R_drewN | apply Kd.R_drew)); exact Kd.R_mono HO_8.out (fun _ hk => ⟨hk.1.1.1.1.1.1.2, ⟨hk.1.1.1.1.2, ⟨hk.1.1.1.2, ⟨hk.1.1.2, ⟨hk.1.2, hk.2⟩⟩⟩⟩⟩)⟩, ⟨by (with_reducible repeat (first | apply Kd.R_alloc | apply Kd.R_drewN | apply Kd.R_drew)); exact Kd.R_mono HO340.out (fun _ hk => ⟨hk.1.1.1.1.1.1.1.2, ⟨hk.1.1.1.1.2, ⟨hk.1.1.1.2, ⟨hk.1.1.2, ⟨hk.1.2, hk.2⟩⟩⟩⟩⟩)⟩, ⟨by (with_reducible repeat (first | apply Kd.R_alloc | apply Kd.R_drewN | apply Kd.R_drew)); exact Kd.R_mono HO347.out (fun _ hk => ⟨hk.1.1.1.1.1.1.1.2, ⟨hk.1.1.1.1.1.2, ⟨hk.1.1.1.2, ⟨hk.1.1.2, ⟨hk.1.2, hk.2⟩⟩⟩⟩⟩)⟩, ⟨by (with_reducible repeat (first | apply Kd.R_alloc | apply Kd.R_drewN | apply Kd.R_drew)); exact Kd.R_mono HO351.out (fun _ hk => ⟨hk.1.1.1.1.1.1.1.2, ⟨hk.1.1.1.1.1.2, ⟨hk.1.1.1.2, ⟨hk.1.1.2, ⟨hk.1.2, hk.2⟩⟩⟩⟩⟩)⟩, ⟨by (with_reducible repeat (first | apply Kd.R_alloc | apply Kd.R_drewN | apply Kd.R_drew)); exact Kd.R_mono HO355.out (fun _ hk => ⟨hk.1.1.1.1.1.1.1.2, ⟨hk.1.1.1.1.1.2, ⟨hk.1.1.1.2, ⟨hk.1.1.2, ⟨hk.1.2, hk.2⟩⟩⟩⟩⟩)⟩, ⟨by (with_reducible repeat (first | apply Kd.S_alloc | apply Kd.S_drewN | apply Kd.S_drew)); exact Kd.S_mono HO359.out (fun _ hk => ⟨hk.1.1.1.1.1.1.1.1.1.2, ⟨hk.1.1.1.1.1.1.1.2, ⟨hk.1.1.1.1.1.2, ⟨hk.1.1.1.1.2, ⟨hk.1.1.1.2, ⟨hk.1.1.2, ⟨hk.1.2, hk.2⟩⟩⟩⟩⟩⟩⟩)⟩, ⟨by (with_reducible repeat (first | apply Kd.S_alloc | apply Kd.S_drewN | apply Kd.S_drew)); exact Kd.S_mono HO363.out (fun _ hk => ⟨hk.1.1.1.1.1.1.1.1.1.2, ⟨hk.1.1.1.1.1.1.1.2, ⟨hk.1.1.1.1.1.2, ⟨hk.1.1.1.1.2, ⟨hk.1.1.1.2, ⟨hk.1.1.2, ⟨hk.1.2, hk.2⟩⟩⟩⟩⟩⟩⟩)⟩, ⟨by (with_reducible repeat (first | apply Kd.R_alloc | apply Kd.R_drewN | apply Kd.R_drew)); exact Kd.R_mono HO368.out (fun _ hk => ⟨hk.1.1.1.1.1.1.1.2, ⟨hk.1.1.1.1.1.2, ⟨hk.1.1.1.2, ⟨hk.1.1.2, ⟨hk.1.2, hk.2⟩⟩⟩⟩⟩)⟩, ⟨by (with_reducible repeat (first | apply Kd.R_alloc | apply Kd.R_drewN | apply Kd.R_drew)); exact Kd.R_mono HO372.out (fun _ hk => ⟨hk.1.1.1.1.1.1.1.2, ⟨hk.1.1.1.1.1.2, ⟨hk.1.1.1.2, ⟨hk.1.1.2, ⟨hk.1.2, hk.2⟩⟩⟩⟩⟩)⟩, ⟨by repeat (first | (with_reducible first | exact HB.out | apply below_alloc | apply pw_below_drewN | apply below_drew1) | exact HB.out)⟩⟩
             ·rw [if_neg c86] at H
              have c86b0 : (t338 == 0) = false := beq_eq_false_iff_ne.mpr c86
              have c86b1 : (t338 != 0) = true := bne_iff_ne.mpr c86
              (first | rw [c86b0] | (simp only [i64_w, i32_w]; rw [c86b0]) | skip)
              have H' := Aside0.mk H
              clear H
              go_wp2
              go_meet
              case rel => exact ⟨_, (true), (by first | rfl | (simp; done) | (simp [*]; done)), H', ⟨by have := HK1.out; have := HK2.out; have := HJ48.out; have := HK4.out; first | omega | exact Nat.le_refl _⟩, ⟨by (with_reducible repeat (first | apply Kd.R_alloc | apply Kd.R_drewN | apply Kd.R_drew)); exact Kd.R_mono HO_8.out (fun _ hk => ⟨hk.1.1.1.1.1.1.2, ⟨hk.1.1.1.1.2, ⟨hk.1.1.1.2, ⟨hk.1.1.2, ⟨hk.1.2, hk.2⟩⟩⟩⟩⟩)⟩, ⟨by (with_reducible repeat (first | apply Kd.R_alloc | apply Kd.R_drewN | apply Kd.R_drew)); exact Kd.R_mono HO340.out (fun _ hk => ⟨hk.1.1.1.1.1.1.1.2, ⟨hk.1.1.1.1.2, ⟨hk.1.1.1.2, ⟨hk.1.1.2, ⟨hk.1.2, hk.2⟩⟩⟩⟩⟩)⟩, ⟨by (with_reducible repeat (first | apply Kd.R_alloc | apply Kd.R_drewN | apply Kd.R_drew)); exact Kd.R_mono HO347.out (fun _ hk => ⟨hk.1.1.1.1.1.1.1.2, ⟨hk.1.1.1.1.1.2, ⟨hk.1.1.1.2, ⟨hk.1.1.2, ⟨hk.1.2, hk.2⟩⟩⟩⟩⟩)⟩, ⟨by (with_reducible repeat (first | apply Kd.R_alloc | apply Kd.R_drewN | apply Kd.R_drew)); exact Kd.R_mono HO351.out (fun _ hk => ⟨hk.1.1.1.1.1.1.1.2, ⟨hk.1.1.1.1.1.2, ⟨hk.1.1.1.2, ⟨hk.1.1.2, ⟨hk.1.2, hk.2⟩⟩⟩⟩⟩)⟩, ⟨by (with_reducible repeat (first | apply Kd.R_alloc | apply Kd.R_drewN | apply Kd.R_drew)); exact Kd.R_mono HO355.out (fun _ hk => ⟨hk.1.1.1.1.1.1.1.2, ⟨hk.1.1.1.1.1.2, ⟨hk.1.1.1.2, ⟨hk.1.1.2, ⟨hk.1.2, hk.2⟩⟩⟩⟩⟩)⟩, ⟨by (with_reducible repeat (first | apply Kd.S_alloc | apply Kd.S_drewN | apply Kd.S_drew)); exact Kd.S_mono HO359.out (fun _ hk => ⟨hk.1.1.1.1.1.1.1.1.1.2, ⟨hk.1.1.1.1.1.1.1.2, ⟨hk.1.1.1.1.1.2, ⟨hk.1.1.1.1.2, ⟨hk.1.1.1.2, ⟨hk.1.1.2, ⟨hk.1.2, hk.2⟩⟩⟩⟩⟩⟩⟩)⟩, ⟨by (with_reducible repeat (first | apply Kd.S_alloc | apply Kd.S_drewN | apply Kd.S_drew)); exact Kd.S_mono HO363.out (fun _ hk => ⟨hk.1.1.1.1.1.1.1.1.1.2, ⟨hk.1.1.1.1.1.1.1.2, ⟨hk.1.1.1.1.1.2, ⟨hk.1.1.1.1.2, ⟨hk.1.1.1.2, ⟨hk.1.1.2, ⟨hk.1.2, hk.2⟩⟩⟩⟩⟩⟩⟩)⟩, ⟨by (with_reducible repeat (first | apply Kd.R_alloc | apply Kd.R_drewN | apply Kd.R_drew)); exact Kd.R_mono HO368.out (fun _ hk => ⟨hk.1.1.1.1.1.1.1.2, ⟨hk.1.1.1.1.1.2, ⟨hk.1.1.1.2, ⟨hk.1.1.2, ⟨hk.1.2, hk.2⟩⟩⟩⟩⟩)⟩, ⟨by (with_reducible repeat (first | apply Kd.R_alloc | apply Kd.R_drewN | apply Kd.R_drew)); exact Kd.R_mono HO372.out (fun _ hk => ⟨hk.1.1.1.1.1.1.1.2, ⟨hk.1.1.1.1.1.2, ⟨hk.1.1.1.2, ⟨hk.1.1.2, ⟨hk.1.2, hk.2⟩⟩⟩⟩⟩)⟩, ⟨by repeat (first | (with_reducible first | exact HB.out | apply below_alloc | apply pw_below_drewN | apply below_drew1) | exact HB.out)⟩⟩
            case rest => as_aux_lemma =>
             clear HC73
             try clear c1
             try clear q1
             try clear c2
             try clear p2
             try clear q2
             try clear hx2
             try clear c3
             try clear p3
             try clear q3
             try clear hx3
             try clear qi3
             try clear c4
             try clear c5
             try clear c6
             try clear c6b0
             try clear p6
             try clear c7
             try clear c7b0
             try clear c8
             try clear c9
             try clear c9b0
             try clear c11
             try clear c11b0
             try clear c11b1
             try clear c12
             try clear c12b0
             try clear c12b1
             try clear c13
             try clear c14
             try clear c15
             try clear c15b0
             try clear c16
             try clear c16b0
             try clear c17
             try clear q18
             try clear c22
             try clear q22
             try clear c24
             try clear c24b0
             try clear c24b1
             try clear c25
             try clear c25b0
             try clear c25b1
             try clear c26
             try clear c27
             try clear c28
             try clear c28b0
             try clear p28
             try clear q28
             try clear hx28
             try clear c29
             try clear c29b0
             try clear c30
             try clear q31
             try clear p32
             try clear q32
             try clear hx32
             try clear p33
             try clear q33
             try clear hx33
             try clear qi33
             try clear c35
             try clear q35
             try clear c37
             try clear c37b0
             try clear c38
             try clear c38b0
             try clear c39
             try clear c39b0
             try clear c40
             try clear c40b0
             try clear c41
             try clear c41b0
             try clear c42
             try clear c42b0
             try clear c45
             try clear c51
             try clear c51b0
             try clear c51b1
             try clear c52
             try clear c52b0
             try clear c52b1
             try clear c55
             try clear c55b0
             try clear c56
             try clear c56b0
             try clear c57
             try clear c57b0
             try clear c58
             try clear c58b0
             try clear c59
             try clear c59b0
             try clear c59b1
             try clear p64
             try clear c86
             try clear c86b0
             try clear c86b1
             try clear c87
             try clear c87b0
             try clear c87b1
             try clear c88
             try clear c88b0
             try clear c88b1
             try clear c89
             try clear c89b0
             try clear c89b1
             try clear c90
             try clear c90b0
             try clear c90b1
             try clear c91
             try clear c91b0
             try clear c91b1
             try clear c92
             try clear c92b0
             try clear c92b1
             try clear c93
             try clear c93b0
             try clear c93b1
             try clear c94
             try clear c94b0
             try clear c94b1
             try clear hx288_0
             try clear hx324_0
             try clear hx324_1
             try clear hx325_0
             try clear hx326_0
             try clear hx326_1
             try clear hx327_0
             try clear hx331_0
             try clear hx335_0
             try clear hx336_0
             try clear p2
             try clear p28
             try clear p288
             try clear p3
             try clear p32
             try clear p324
             try clear p325
             try clear p326
             try clear p327
             try clear p33
             try clear p331
             try clear p335
             try clear p336
             try clear p6
             try clear q022
             try clear q035
             try clear q1
             try clear q18
             try clear q2
             try clear q22
             try clear q28
             try clear q288
             try clear q3
             try clear q31
             try clear q32
             try clear q324
             try clear q325
             try clear q326
             try clear q327
             try clear q33
             try clear q331
             try clear q335
             try clear q336
             try clear q35
             obtain ⟨kq, x231_72, rfl, HA, HJ72, HO_8, HO_20, HO_22, HO_24, HO_26, HO_28, HO_30, HO_33, HO_35, HB⟩ := hcut
             cases kq with
             | zero => exact absurd HA.out (by simp [numnahlaw06_WettingRenamed.j4])
             | succ kj72 =>
              have H := HA.out
              clear HA
              simp only [numnahlaw06_WettingRenamed.j4] at H
              by_cases c98 : x231_72 = true
              ·subst c98
               have H1 : (some false) = some r := by rw [if_pos rfl] at H; exact H
               clear H
               have H := H1
               clear H1
               obtain rfl := Option.some.inj H
               go_wp2
               go_ret
               exact ⟨by first | rfl | (simp [errW_none, errW_some] <;> rfl) | (simp [*, errW_none, errW_some] <;> rfl), by repeat (first | (with_reducible first | exact HB.out | apply below_alloc | apply pw_below_drewN | apply below_drew1) | exact HB.out)⟩
              ·replace c98 := Bool.eq_false_iff.mpr c98
               subst c98
               have H1 : (numnahlaw06_WettingRenamed.l3 kj72 t284 x8_1 t337 t344 t348 t352 t356 t360 t365 t369 0) = some r := by rw [if_neg (show ¬ (false = true) by decide)] at H; exact H
               clear H
               have H := H1
               clear H1
               have H' := Aside0.mk H
               clear H
               go_wp2
               go_loopg [37] kj72 (fun kq v37 w' => ∃ (x37_6 : Int), v37 = .int .i64 x37_6 ∧ Aside0 (numnahlaw06_WettingRenamed.l3 kq t284 x8_1 t337 t344 t348 t352 t356 t360 t365 t369 x37_6 = some r) ∧ Aside0 (kq ≤ kj72) ∧ Aside0 (Kd.R (Kd.int .i64) 3 w' w.heap.size (fun k_ => some k_ ≠ (v339 : Value).ownBlock ∧ some k_ ≠ (v346 : Value).ownBlock ∧ some k_ ≠ (v350 : Value).ownBlock ∧ some k_ ≠ (v354 : Value).ownBlock ∧ some k_ ≠ (v367 : Value).ownBlock ∧ some k_ ≠ (v371 : Value).ownBlock) u8 x8_1) ∧ Aside0 (Kd.R (Kd.int .i64) 3 w' w.heap.size (fun k_ => some k_ ≠ (u8 : Value).ownBlock ∧ some k_ ≠ (v346 : Value).ownBlock ∧ some k_ ≠ (v350 : Value).ownBlock ∧ some k_ ≠ (v354 : Value).ownBlock ∧ some k_ ≠ (v367 : Value).ownBlock ∧ some k_ ≠ (v371 : Value).ownBlock) v339 t337) ∧ Aside0 (Kd.R (Kd.int .i64) 3 w' w.heap.size (fun k_ => some k_ ≠ (u8 : Value).ownBlock ∧ some k_ ≠ (v339 : Value).ownBlock ∧ some k_ ≠ (v350 : Value).ownBlock ∧ some k_ ≠ (v354 : Value).ownBlock ∧ some k_ ≠ (v367 : Value).ownBlock ∧ some k_ ≠ (v371 : Value).ownBlock) v346 t344) ∧ Aside0 (Kd.R (Kd.int .i64) 3 w' w.heap.size (fun k_ => some k_ ≠ (u8 : Value).ownBlock ∧ some k_ ≠ (v339 : Value).ownBlock ∧ some k_ ≠ (v346 : Value).ownBlock ∧ some k_ ≠ (v354 : Value).ownBlock ∧ some k_ ≠ (v367 : Value).ownBlock ∧ some k_ ≠ (v371 : Value).ownBlock) v350 t348) ∧ Aside0 (Kd.R (Kd.int .i64) 3 w' w.heap.size (fun k_ => some k_ ≠ (u8 : Value).ownBlock ∧ some k_ ≠ (v339 : Value).ownBlock ∧ some k_ ≠ (v346 : Value).ownBlock ∧ some k_ ≠ (v350 : Value).ownBlock ∧ some k_ ≠ (v367 : Value).ownBlock ∧ some k_ ≠ (v371 : Value).ownBlock) v354 t352) ∧ Aside0 (Kd.S (Kd.slice 3 (Kd.int .i64)) 24 w' w.heap.size (fun k_ => some k_ ≠ (u8 : Value).ownBlock ∧ some k_ ≠ (v339 : Value).ownBlock ∧ some k_ ≠ (v346 : Value).ownBlock ∧ some k_ ≠ (v350 : Value).ownBlock ∧ some k_ ≠ (v354 : Value).ownBlock ∧ some k_ ≠ (v362 : Value).ownBlock ∧ some k_ ≠ (v367 : Value).ownBlock ∧ some k_ ≠ (v371 : Value).ownBlock) v358 t356) ∧ Aside0 (Kd.S (Kd.slice 3 (Kd.int .i64)) 24 w' w.heap.size (fun k_ => some k_ ≠ (u8 : Value).ownBlock ∧ some k_ ≠ (v339 : Value).ownBlock ∧ some k_ ≠ (v346 : Value).ownBlock ∧ some k_ ≠ (v350 : Value).ownBlock ∧ some k_ ≠ (v354 : Value).ownBlock ∧ some k_ ≠ (v358 : Value).ownBlock ∧ some k_ ≠ (v367 : Value).ownBlock ∧ some k_ ≠ (v371 : Value).ownBlock) v362 t360) ∧ Aside0 (Kd.R (Kd.int .i64) 3 w' w.heap.size (fun k_ => some k_ ≠ (u8 : Value).ownBlock ∧ some k_ ≠ (v339 : Value).ownBlock ∧ some k_ ≠ (v346 : Value).ownBlock ∧ some k_ ≠ (v350 : Value).ownBlock ∧ some k_ ≠ (v354 : Value).ownBlock ∧ some k_ ≠ (v371 : Value).ownBlock) v367 t365) ∧ Aside0 (Kd.R (Kd.int .i64) 3 w' w.heap.size (fun k_ => some k_ ≠ (u8 : Value).ownBlock ∧ some k_ ≠ (v339 : Value).ownBlock ∧ some k_ ≠ (v346 : Value).ownBlock ∧ some k_ ≠ (v350 : Value).ownBlock ∧ some k_ ≠ (v354 : Value).ownBlock ∧ some k_ ≠ (v367 : Value).ownBlock) v371 t369) ∧ Aside0 (Below w.heap.size w w'))
               case atStart => exact ⟨(0), (by first | rfl | (simp; done) | (simp [*]; done)), H', ⟨Nat.le_refl _⟩, ⟨by (with_reducible repeat (first | apply Kd.R_alloc | apply Kd.R_drewN | apply Kd.R_drew)); exact HO_8.out⟩, ⟨by (with_reducible repeat (first | apply Kd.R_alloc | apply Kd.R_drewN | apply Kd.R_drew)); exact HO_20.out⟩, ⟨by (with_reducible repeat (first | apply Kd.R_alloc | apply Kd.R_drewN | apply Kd.R_drew)); exact HO_22.out⟩, ⟨by (with_reducible repeat (first | apply Kd.R_alloc | apply Kd.R_drewN | apply Kd.R_drew)); exact HO_24.out⟩, ⟨by (with_reducible repeat (first | apply Kd.R_alloc | apply Kd.R_drewN | apply Kd.R_drew)); exact HO_26.out⟩, ⟨by (with_reducible repeat (first | apply Kd.S_alloc | apply Kd.S_drewN | apply Kd.S_drew)); exact HO_28.out⟩, ⟨by (with_reducible repeat (first | apply Kd.S_alloc | apply Kd.S_drewN | apply Kd.S_drew)); exact HO_30.out⟩, ⟨by (with_reducible repeat (first | apply Kd.R_alloc | apply Kd.R_drewN | apply Kd.R_drew)); exact HO_33.out⟩, ⟨by (with_reducible repeat (first | apply Kd.R_alloc | apply Kd.R_drewN | apply Kd.R_drew)); exact HO_35.out⟩, ⟨by repeat (first | (with_reducible first | exact HB.out | apply below_alloc | apply pw_below_drewN | apply below_drew1) | exact HB.out)⟩⟩
               case round =>
                clear H'
                try clear c1
                try clear q1
                try clear c2
                try clear p2
                try clear q2
                try clear hx2
                try clear c3
                try clear p3
                try clear q3
                try clear hx3
                try clear qi3
                try clear c4
                try clear c5
                try clear c6
                try clear c6b0
                try clear p6
                try clear c7
                try clear c7b0
                try clear c8
                try clear c9
                try clear c9b0
                try clear c11
                try clear c11b0
                try clear c11b1
                try clear c12
                try clear c12b0
                try clear c12b1
                try clear c13
                try clear c14
                try clear c15
                try clear c15b0
                try clear c16
                try clear c16b0
                try clear c17
                try clear q18
                try clear c22
                try clear q22
                try clear c24
                try clear c24b0
                try clear c24b1
                try clear c25
                try clear c25b0
                try clear c25b1
                try clear c26
                try clear c27
                try clear c28
                try clear c28b0
                try clear p28
                try clear q28
                try clear hx28
                try clear c29
                try clear c29b0
                try clear c30
                try clear q31
                try clear p32
                try clear q32
                try clear hx32
                try clear p33
                try clear q33
                try clear hx33
                try clear qi33
                try clear c35
                try clear q35
                try clear c37
                try clear c37b0
                try clear c38
                try clear c38b0
                try clear c39
                try clear c39b0
                try clear c40
                try clear c40b0
                try clear c41
                try clear c41b0
                try clear c42
                try clear c42b0
                try clear c45
                try clear c51
                try clear c51b0
                try clear c51b1
                try clear c52
                try clear c52b0
                try clear c52b1
                try clear c55
                try clear c55b0
                try clear c56
                try clear c56b0
                try clear c57
                try clear c57b0
                try clear c58
                try clear c58b0
                try clear c59
                try clear c59b0
                try clear c59b1
                try clear p64
                try clear c86
                try clear c86b0
                try clear c86b1
                try clear c87
                try clear c87b0
                try clear c87b1
                try clear c88
                try clear c88b0
                try clear c88b1
                try clear c89
                try clear c89b0
                try clear c89b1
                try clear c90
                try clear c90b0
                try clear c90b1
                try clear c91
                try clear c91b0
                try clear c91b1
                try clear c92
                try clear c92b0
                try clear c92b1
                try clear c93
                try clear c93b0
                try clear c93b1
                try clear c94
                try clear c94b0
                try clear c94b1
                try clear c98
                try clear hx288_0
                try clear hx324_0
                try clear hx324_1
                try clear hx325_0
                try clear hx326_0
                try clear hx326_1
                try clear hx327_0
                try clear hx331_0
                try clear hx335_0
                try clear hx336_0
                try clear p2
                try clear p28
                try clear p288
                try clear p3
                try clear p32
                try clear p324
                try clear p325
                try clear p326
                try clear p327
                try clear p33
                try clear p331
                try clear p335
                try clear p336
                try clear p6
                try clear p64
                try clear q022
                try clear q035
                try clear q1
                try clear q18
                try clear q2
                try clear q22
                try clear q28
                try clear q288
                try clear q3
                try clear q31
                try clear q32
                try clear q324
                try clear q325
                try clear q326
                try clear q327
                try clear q33
                try clear q331
                try clear q335
                try clear q336
                try clear q35
                obtain ⟨x37_6, rfl, HA, HK6, HO_8, HO_20, HO_22, HO_24, HO_26, HO_28, HO_30, HO_33, HO_35, HB⟩ := hrel
                cases gk with
                | zero => exact absurd HA.out (by simp [numnahlaw06_WettingRenamed.l3])
                | succ k6 =>
                 have H := HA.out
                 clear HA
                 simp only [numnahlaw06_WettingRenamed.l3] at H
                 by_cases c99 : x37_6 < t284
                 ·rw [if_pos c99] at H
                  have c99b0 : decide (x37_6 < t284) = true := decide_eq_true c99
                  clear c99
                  by_cases c100 : 0 ≤ x37_6
                  ·rw [if_pos c100] at H
                   have c100b0 : decide (0 ≤ x37_6) = true := decide_eq_true c100
                   clear c100
                   by_cases c101 : x37_6 < (t337.length : Int)
                   ·rw [if_pos c101] at H
                    have c101b0 : decide (x37_6 < (t337.length : Int)) = true := decide_eq_true c101
                    clear c101
                    by_cases c102 : x37_6 < (x8_1.length : Int)
                    ·rw [if_pos c102] at H
                     have c102b0 : decide (x37_6 < (x8_1.length : Int)) = true := decide_eq_true c102
                     clear c102
                     by_cases c103 : 0 ≤ (rd x8_1 x37_6)
                     ·rw [if_pos c103] at H
                      have c103b0 : decide (0 ≤ (rd x8_1 x37_6)) = true := decide_eq_true c103
                      clear c103
                      by_cases c104 : (rd x8_1 x37_6) < (t344.length : Int)
                      ·rw [if_pos c104] at H
                       have c104b0 : decide ((rd x8_1 x37_6) < (t344.length : Int)) = true := decide_eq_true c104
                       clear c104
                       by_cases c105 : (rd t337 x37_6) = (rd t344 (rd x8_1 x37_6))
                       ·as_aux_lemma =>
                        rw [if_pos c105] at H
                        have c105b0 : ((rd t337 x37_6) == (rd t344 (rd x8_1 x37_6))) = true := beq_iff_eq.mpr c105
                        have c105b1 : ((rd t337 x37_6) != (rd t344 (rd x8_1 x37_6))) = false := bne_eq_false_iff_eq.mpr c105
                        clear c105
                        have H' := Aside0.mk H
                        clear H
                        obtain ⟨Ao106, co106, eo106⟩ := Kd.R_slice HO_20.out
                        subst eo106
                        have p373 : 0 ≤ (x37_6 : Int) := of_decide_eq_true (by first | (with_reducible assumption) | assumption)
                        have q373 : x37_6 < (t337.length : Int) := of_decide_eq_true (by first | (with_reducible assumption) | assumption)
                        obtain ⟨ad373, e373, hx373_0⟩ := Kd.at_int (Kd.R_reads' HO_20.out).2.2 x37_6 p373 q373
                        cases e373
                        replace p373 := eq_true p373
                        replace q373 := eq_true q373
                        obtain ⟨Ao107, co107, eo107⟩ := Kd.R_slice HO_8.out
                        subst eo107
                        have p374 : 0 ≤ (x37_6 : Int) := of_decide_eq_true (by first | (with_reducible assumption) | assumption)
                        have q374 : x37_6 < (x8_1.length : Int) := of_decide_eq_true (by first | (with_reducible assumption) | assumption)
                        obtain ⟨ad374, e374, hx374_0⟩ := Kd.at_int (Kd.R_reads' HO_8.out).2.2 x37_6 p374 q374
                        cases e374
                        replace p374 := eq_true p374
                        replace q374 := eq_true q374
                        obtain ⟨Ao108, co108, eo108⟩ := Kd.R_slice HO_22.out
                        subst eo108
                        have p375 : 0 ≤ ((rd x8_1 x37_6) : Int) := of_decide_eq_true (by first | (with_reducible assumption) | assumption)
                        have q375 : (rd x8_1 x37_6) < (t344.length : Int) := of_decide_eq_true (by first | (with_reducible assumption) | assumption)
                        obtain ⟨ad375, e375, hx375_0⟩ := Kd.at_int (Kd.R_reads' HO_22.out).2.2 (rd x8_1 x37_6) p375 q375
                        cases e375
                        replace p375 := eq_true p375
                        replace q375 := eq_true q375
                        go_wp2
                        repeat (go_quiet (fail); try go_wp2)
                        go_roundg k6
                        case measure => have := HK1.out; have := HK2.out; have := HJ48.out; have := HK4.out; have := HJ72.out; have := HK6.out; omega
                        case rel => exact ⟨(wrap64 (x37_6 + 1)), (by first | rfl | (simp; done) | (simp [*]; done)), H', ⟨by have := HK1.out; have := HK2.out; have := HJ48.out; have := HK4.out; have := HJ72.out; have := HK6.out; omega⟩, ⟨by (with_reducible repeat (first | apply Kd.R_alloc | apply Kd.R_drewN | apply Kd.R_drew)); exact HO_8.out⟩, ⟨by (with_reducible repeat (first | apply Kd.R_alloc | apply Kd.R_drewN | apply Kd.R_drew)); exact HO_20.out⟩, ⟨by (with_reducible repeat (first | apply Kd.R_alloc | apply Kd.R_drewN | apply Kd.R_drew)); exact HO_22.out⟩, ⟨by (with_reducible repeat (first | apply Kd.R_alloc | apply Kd.R_drewN | apply Kd.R_drew)); exact HO_24.out⟩, ⟨by (with_reducible repeat (first | apply Kd.R_alloc | apply Kd.R_drewN | apply Kd.R_drew)); exact HO_26.out⟩, ⟨by (with_reducible repeat (first | apply Kd.S_alloc | apply Kd.S_drewN | apply Kd.S_drew)); exact HO_28.out⟩, ⟨by (with_reducible repeat (first | apply Kd.S_alloc | apply Kd.S_drewN | apply Kd.S_drew)); exact HO_30.out⟩, ⟨by (with_reducible repeat (first | apply Kd.R_alloc | apply Kd.R_drewN | apply Kd.R_drew)); exact HO_33.out⟩, ⟨by (with_reducible repeat (first | apply Kd.R_alloc | apply Kd.R_drewN | apply Kd.R_drew)); exact HO_35.out⟩, ⟨by repeat (first | (with_reducible first | exact HB.out | apply below_alloc | apply pw_below_drewN | apply below_drew1) | exact HB.out)⟩⟩
                       ·as_aux_lemma =>
                        rw [if_neg c105] at H
                        have c105b0 : ((rd t337 x37_6) == (rd t344 (rd x8_1 x37_6))) = false := beq_eq_false_iff_ne.mpr c105
                        have c105b1 : ((rd t337 x37_6) != (rd t344 (rd x8_1 x37_6))) = true := bne_iff_ne.mpr c105
                        obtain rfl := Option.some.inj H
                        obtain ⟨Ao109, co109, eo109⟩ := Kd.R_slice HO_20.out
                        subst eo109
                        have p373 : 0 ≤ (x37_6 : Int) := of_decide_eq_true (by first | (with_reducible assumption) | assumption)
                        have q373 : x37_6 < (t337.length : Int) := of_decide_eq_true (by first | (with_reducible assumption) | assumption)
                        obtain ⟨ad373, e373, hx373_0⟩ := Kd.at_int (Kd.R_reads' HO_20.out).2.2 x37_6 p373 q373
                        cases e373
                        replace p373 := eq_true p373
                        replace q373 := eq_true q373
                        obtain ⟨Ao110, co110, eo110⟩ := Kd.R_slice HO_8.out
                        subst eo110
                        have p374 : 0 ≤ (x37_6 : Int) := of_decide_eq_true (by first | (with_reducible assumption) | assumption)
                        have q374 : x37_6 < (x8_1.length : Int) := of_decide_eq_true (by first | (with_reducible assumption) | assumption)
                        obtain ⟨ad374, e374, hx374_0⟩ := Kd.at_int (Kd.R_reads' HO_8.out).2.2 x37_6 p374 q374
                        cases e374
                        replace p374 := eq_true p374
                        replace q374 := eq_true q374
                        obtain ⟨Ao111, co111, eo111⟩ := Kd.R_slice HO_22.out
                        subst eo111
                        have p375 : 0 ≤ ((rd x8_1 x37_6) : Int) := of_decide_eq_true (by first | (with_reducible assumption) | assumption)
                        have q375 : (rd x8_1 x37_6) < (t344.length : Int) := of_decide_eq_true (by first | (with_reducible assumption) | assumption)
                        obtain ⟨ad375, e375, hx375_0⟩ := Kd.at_int (Kd.R_reads' HO_22.out).2.2 (rd x8_1 x37_6) p375 q375
                        cases e375
                        replace p375 := eq_true p375
                        replace q375 := eq_true q375
                        go_wp2
                        repeat (go_quiet (fail); try go_wp2)
                        go_ret
                        exact ⟨by first | rfl | (simp [errW_none, errW_some] <;> rfl) | (simp [*, errW_none, errW_some] <;> rfl), by repeat (first | (with_reducible first | exact HB.out | apply below_alloc | apply pw_below_drewN | apply below_drew1) | exact HB.out)⟩
                      ·rw [if_neg c104] at H
                       exact absurd H (by simp)
                     ·rw [if_neg c103] at H
                      exact absurd H (by simp)
                    ·rw [if_neg c102] at H
                     exact absurd H (by simp)
                   ·rw [if_neg c101] at H
                    exact absurd H (by simp)
                  ·rw [if_neg c100] at H
                   exact absurd H (by simp)
                 ·as_aux_lemma =>
                  rw [if_neg c99] at H
                  have c99b0 : decide (x37_6 < t284) = false := decide_eq_false c99
                  clear c99
                  by_cases c112 : (t348.length : Int) = (t352.length : Int)
                  ·rw [if_pos c112] at H
                   have c112b0 : ((t348.length : Int) == (t352.length : Int)) = true := beq_iff_eq.mpr c112
                   have c112b1 : ((t348.length : Int) != (t352.length : Int)) = false := bne_eq_false_iff_eq.mpr c112
                   have c112b2 : (t348.length == t352.length) = true := by first | simpa using c112 | (simp at c112 ⊢; omega)
                   clear c112
                   by_cases c113 : (t356.length : Int) = (t360.length : Int)
                   ·rw [if_pos c113] at H
                    have c113b0 : ((t356.length : Int) == (t360.length : Int)) = true := beq_iff_eq.mpr c113
                    have c113b1 : ((t356.length : Int) != (t360.length : Int)) = false := bne_eq_false_iff_eq.mpr c113
                    have c113b2 : (t356.length == t360.length) = true := by first | simpa using c113 | (simp at c113 ⊢; omega)
                    clear c113
                    by_cases c114 : (t365.length : Int) = (t369.length : Int)
                    ·rw [if_pos c114] at H
                     have c114b0 : ((t365.length : Int) == (t369.length : Int)) = true := beq_iff_eq.mpr c114
                     have c114b1 : ((t365.length : Int) != (t369.length : Int)) = false := bne_eq_false_iff_eq.mpr c114
                     have c114b2 : (t365.length == t369.length) = true := by first | simpa using c114 | (simp at c114 ⊢; omega)
                     clear c114
                     replace H := Option.bind_eq_some_iff.mp H
                     obtain ⟨t376, A1150, H⟩ := H
                     replace H : (some t376) = some r := H
                     have A115 := Aside0.mk A1150
                     clear A1150
                     obtain rfl := Option.some.inj H
                     obtain ⟨Ao116, co116, eo116⟩ := Kd.R_slice HO_24.out
                     subst eo116
                     obtain ⟨Ao117, co117, eo117⟩ := Kd.R_slice HO_26.out
                     subst eo117
                     obtain ⟨Ao118, co118, eo118⟩ := Kd.S_slice HO_28.out
                     subst eo118
                     obtain ⟨Ao119, co119, eo119⟩ := Kd.S_slice HO_30.out
                     subst eo119
                     obtain ⟨Ao120, co120, eo120⟩ := Kd.R_slice HO_33.out
                     subst eo120
                     obtain ⟨Ao121, co121, eo121⟩ := Kd.R_slice HO_35.out
                     subst eo121
                     go_wp2_with (first | (go_at_call 21; (with_reducible refine (numnahlaw06_awake.calls  t376 _ A115.out ?sideT).mono ?_); (case sideT => exact tab_of (by repeat (first | (with_reducible first | exact HB.out | apply below_alloc | apply pw_below_drewN | apply below_drew1) | exact HB.out)) HT.out); rintro e w122 ⟨rfl, hb⟩; have n0_ := Aside0.mk (Kd.R_below (by (with_reducible repeat (first | apply Kd.R_alloc | apply Kd.R_drewN | apply Kd.R_drew)); exact HO_8.out) hb); have n1_ := Aside0.mk (Kd.R_below (by (with_reducible repeat (first | apply Kd.R_alloc | apply Kd.R_drewN | apply Kd.R_drew)); exact HO_20.out) hb); have n2_ := Aside0.mk (Kd.R_below (by (with_reducible repeat (first | apply Kd.R_alloc | apply Kd.R_drewN | apply Kd.R_drew)); exact HO_22.out) hb); have n3_ := Aside0.mk (Kd.R_below (by (with_reducible repeat (first | apply Kd.R_alloc | apply Kd.R_drewN | apply Kd.R_drew)); exact HO_24.out) hb); have n4_ := Aside0.mk (Kd.R_below (by (with_reducible repeat (first | apply Kd.R_alloc | apply Kd.R_drewN | apply Kd.R_drew)); exact HO_26.out) hb); have n5_ := Aside0.mk (Kd.S_below (by (with_reducible repeat (first | apply Kd.S_alloc | apply Kd.S_drewN | apply Kd.S_drew)); exact HO_28.out) hb); have n6_ := Aside0.mk (Kd.S_below (by (with_reducible repeat (first | apply Kd.S_alloc | apply Kd.S_drewN | apply Kd.S_drew)); exact HO_30.out) hb); have n7_ := Aside0.mk (Kd.R_below (by (with_reducible repeat (first | apply Kd.R_alloc | apply Kd.R_drewN | apply Kd.R_drew)); exact HO_33.out) hb); have n8_ := Aside0.mk (Kd.R_below (by (with_reducible repeat (first | apply Kd.R_alloc | apply Kd.R_drewN | apply Kd.R_drew)); exact HO_35.out) hb); have n9_ := Aside0.mk (below_step (by repeat (first | (with_reducible first | exact HB.out | apply below_alloc | apply pw_below_drewN | apply below_drew1) | exact HB.out)) hb); clear HO_8; clear HO_20; clear HO_22; clear HO_24; clear HO_26; clear HO_28; clear HO_30; clear HO_33; clear HO_35; clear HB; have HO_8 := n0_; have HO_20 := n1_; have HO_22 := n2_; have HO_24 := n3_; have HO_26 := n4_; have HO_28 := n5_; have HO_30 := n6_; have HO_33 := n7_; have HO_35 := n8_; have HB := n9_; clear n0_ n1_ n2_ n3_ n4_ n5_ n6_ n7_ n8_ n9_; (try clear hb); (try clear hb2); (try clear hk); (try clear hi)))
                     go_ret
                     exact ⟨by first | rfl | (simp [errW_none, errW_some] <;> rfl) | (simp [*, errW_none, errW_some] <;> rfl), by repeat (first | (with_reducible first | exact HB.out | apply below_alloc | apply pw_below_drewN | apply below_drew1) | exact HB.out)⟩
                    ·rw [if_neg c114] at H
                     have c114b0 : ((t365.length : Int) == (t369.length : Int)) = false := beq_eq_false_iff_ne.mpr c114
                     have c114b1 : ((t365.length : Int) != (t369.length : Int)) = true := bne_iff_ne.mpr c114
                     have c114b2 : (t365.length == t369.length) = false := by first | simpa using c114 | (simp at c114 ⊢; omega)
                     obtain rfl := Option.some.inj H
                     obtain ⟨Ao123, co123, eo123⟩ := Kd.R_slice HO_24.out
                     subst eo123
                     obtain ⟨Ao124, co124, eo124⟩ := Kd.R_slice HO_26.out
                     subst eo124
                     obtain ⟨Ao125, co125, eo125⟩ := Kd.S_slice HO_28.out
                     subst eo125
                     obtain ⟨Ao126, co126, eo126⟩ := Kd.S_slice HO_30.out
                     subst eo126
                     obtain ⟨Ao127, co127, eo127⟩ := Kd.R_slice HO_33.out
                     subst eo127
                     obtain ⟨Ao128, co128, eo128⟩ := Kd.R_slice HO_35.out
                     subst eo128
                     go_wp2
                     go_ret
                     exact ⟨by first | rfl | (simp [errW_none, errW_some] <;> rfl) | (simp [*, errW_none, errW_some] <;> rfl), by repeat (first | (with_reducible first | exact HB.out | apply below_alloc | apply pw_below_drewN | apply below_drew1) | exact HB.out)⟩
                   ·rw [if_neg c113] at H
                    have c113b0 : ((t356.length : Int) == (t360.length : Int)) = false := beq_eq_false_iff_ne.mpr c113
                    have c113b1 : ((t356.length : Int) != (t360.length : Int)) = true := bne_iff_ne.mpr c113
                    have c113b2 : (t356.length == t360.length) = false := by first | simpa using c113 | (simp at c113 ⊢; omega)
                    obtain rfl := Option.some.inj H
                    obtain ⟨Ao129, co129, eo129⟩ := Kd.R_slice HO_24.out
                    subst eo129
                    obtain ⟨Ao130, co130, eo130⟩ := Kd.R_slice HO_26.out
                    subst eo130
                    obtain ⟨Ao131, co131, eo131⟩ := Kd.S_slice HO_28.out
                    subst eo131
                    obtain ⟨Ao132, co132, eo132⟩ := Kd.S_slice HO_30.out
                    subst eo132
                    go_wp2
                    go_ret
                    exact ⟨by first | rfl | (simp [errW_none, errW_some] <;> rfl) | (simp [*, errW_none, errW_some] <;> rfl), by repeat (first | (with_reducible first | exact HB.out | apply below_alloc | apply pw_below_drewN | apply below_drew1) | exact HB.out)⟩
                  ·rw [if_neg c112] at H
                   have c112b0 : ((t348.length : Int) == (t352.length : Int)) = false := beq_eq_false_iff_ne.mpr c112
                   have c112b1 : ((t348.length : Int) != (t352.length : Int)) = true := bne_iff_ne.mpr c112
                   have c112b2 : (t348.length == t352.length) = false := by first | simpa using c112 | (simp at c112 ⊢; omega)
                   obtain rfl := Option.some.inj H
                   obtain ⟨Ao133, co133, eo133⟩ := Kd.R_slice HO_24.out
                   subst eo133
                   obtain ⟨Ao134, co134, eo134⟩ := Kd.R_slice HO_26.out
                   subst eo134
                   go_wp2
                   go_ret
                   exact ⟨by first | rfl | (simp [errW_none, errW_some] <;> rfl) | (simp [*, errW_none, errW_some] <;> rfl), by repeat (first | (with_reducible first | exact HB.out | apply below_alloc | apply pw_below_drewN | apply below_drew1) | exact HB.out)⟩

end Go.Proofs.YtpbeaaihdmfnlaaDoor.G

/- ### LRenamed -/
/- The law of renamed places, in plain words. -/
namespace Go.Proofs.YtpbeaaihdmfnlaaDoor.P
open Go Go.RowKit Go.Proofs.YtpbeaaihdmfnlaaDoor.M Go.Proofs.YtpbeaaihdmfnlaaDoor.H Go.Proofs.YtpbeaaihdmfnlaaDoor.G
open Go.Proofs.YtpbeaaihdmfnlaaDoorW.PrintWords Go.Proofs.YtpbeaaihdmfnlaaDoorW.PrintMore

/-- The numbers below 'i', in some order. -/
structure Mix (O : List Nat) (i : Nat) : Prop where
  len : O.length = i
  nd : O.Nodup
  lt : ∀ x ∈ O, x < i
theorem Mix.ins {O : List Nat} {i : Nat} (h : Mix O i) (r : Nat) : Mix (O.take r ++ [i] ++ O.drop r) (i + 1) := by
  have hp : (O.take r ++ [i] ++ O.drop r).Perm (i :: O) := by
    rw [List.append_assoc, List.singleton_append]
    refine List.perm_middle.trans ?_
    rw [List.take_append_drop]
  refine ⟨?_, ?_, ?_⟩
  · rw [hp.length_eq, List.length_cons, h.len]
  · rw [hp.nodup_iff, List.nodup_cons]
    exact ⟨fun hm => by have := h.lt i hm; omega, h.nd⟩
  · intro x hx
    rcases List.mem_cons.1 (hp.mem_iff.1 hx) with rfl | hx
    · omega
    · have := h.lt x hx; omega
theorem Mix.mem {O : List Nat} {n : Nat} (h : Mix O n) {j : Nat} (hj : j < n) : j ∈ O := by
  apply Classical.byContradiction
  intro hm
  have := nodup_lt (l := j :: O) (N := n) (List.nodup_cons.2 ⟨hm, h.nd⟩) (fun x hx => by
    rcases List.mem_cons.1 hx with rfl | hx
    · exact hj
    · exact h.lt x hx)
  rw [List.length_cons, h.len] at this
  omega
def pOf (O : List Nat) (i : Nat) : Nat := O.getD i 0
def qOf (O : List Nat) (j : Nat) : Nat := O.idxOf j
theorem pOf_at {O : List Nat} {i : Nat} (h : i < O.length) : pOf O i = O[i] := by simp [pOf, h]
theorem Mix.perm {O : List Nat} {n : Nat} (h : Mix O n) : Perm n (pOf O) (qOf O) where
  p_lt := fun i hi => by rw [pOf_at (by rw [h.len]; exact hi)]; exact h.lt _ (List.getElem_mem _)
  q_lt := fun j hj => by have := List.idxOf_lt_length_iff.2 (h.mem hj); rw [h.len] at this; exact this
  left := fun i hi => by rw [pOf_at (by rw [h.len]; exact hi)]; exact h.nd.idxOf_getElem i _
  right := fun j hj => by
    have := List.idxOf_lt_length_iff.2 (h.mem hj)
    show pOf O (List.idxOf j O) = j
    rw [pOf_at this]
    exact List.getElem_idxOf _
theorem Mix.rdN {O : List Nat} {n : Nat} (h : Mix O n) {i : Nat} (hi : i < n) : rd (natsI O) (i : Int) = (pOf O i : Int) := by
  rw [rd_nats (by rw [h.len]; exact hi), pOf_at (by rw [h.len]; exact hi)]
def reE (O : List Nat) (e : S48) : S48 := ⟨mn (rd (natsI O) e.f0) (rd (natsI O) e.f1), mx (rd (natsI O) e.f0) (rd (natsI O) e.f1)⟩
theorem Mix.rdI {O : List Nat} {n : Nat} (h : Mix O n) {a : Int} (h0 : 0 ≤ a) (h1 : a < n) : 0 ≤ rd (natsI O) a ∧ rd (natsI O) a < n ∧ rd (natsI O) a = (pOf O a.toNat : Int) := by
  obtain ⟨i, rfl⟩ : ∃ i : Nat, a = i := ⟨a.toNat, by omega⟩
  have := h.perm.p_lt i (by omega)
  rw [h.rdN (by omega), Int.toNat_natCast]
  exact ⟨by omega, by omega, rfl⟩
theorem Mix.inj {O : List Nat} {n : Nat} (h : Mix O n) {a b : Int} (h0 : 0 ≤ a) (h1 : a < n) (h2 : 0 ≤ b) (h3 : b < n) (e : rd (natsI O) a = rd (natsI O) b) : a = b := by
  obtain ⟨i, rfl⟩ : ∃ i : Nat, a = i := ⟨a.toNat, by omega⟩
  obtain ⟨j, rfl⟩ : ∃ j : Nat, b = j := ⟨b.toNat, by omega⟩
  rw [h.rdN (by omega), h.rdN (by omega)] at e
  have l1 := h.perm.left i (by omega)
  have l2 := h.perm.left j (by omega)
  have : pOf O i = pOf O j := by omega
  rw [this, l2] at l1
  omega
theorem mn_mx (a b : Int) : (a ≤ b ∧ mn a b = a ∧ mx a b = b) ∨ (b < a ∧ mn a b = b ∧ mx a b = a) := by
  unfold mn mx
  by_cases h : a ≤ b
  · refine .inl ⟨h, ?_, ?_⟩ <;> split <;> omega
  · refine .inr ⟨by omega, ?_, ?_⟩ <;> split <;> omega
theorem Mix.edges {O : List Nat} {n : Nat} (h : Mix O n) : ∀ (l seen : List S48), (∀ x ∈ seen, 0 ≤ x.f0 ∧ x.f0 < x.f1 ∧ x.f1 < n) → edgesB (n : Int) seen l = true → edgesB (n : Int) (seen.map (reE O)) (l.map (reE O)) = true
  | [], _, _, _ => rfl
  | e :: l, seen, hs, he => by
    rw [edgesB, Bool.and_eq_true, decide_eq_true_iff] at he
    obtain ⟨⟨h0, h1, h2, h3⟩, h4⟩ := he
    rw [List.map_cons, edgesB, Bool.and_eq_true, decide_eq_true_iff]
    have ih := Mix.edges h l (seen ++ [e]) (fun x hx => by
      rcases List.mem_append.1 hx with hx | hx
      · exact hs x hx
      · rw [List.mem_singleton.1 hx]; exact ⟨h0, h1, h2⟩) h4
    rw [List.map_append] at ih
    refine ⟨?_, ih⟩
    obtain ⟨a0, a1, _⟩ := h.rdI h0 (by omega : e.f0 < n)
    obtain ⟨b0, b1, _⟩ := h.rdI (by omega : 0 ≤ e.f1) h2
    have hab : rd (natsI O) e.f0 ≠ rd (natsI O) e.f1 := fun k => by
      have := h.inj h0 (by omega) (by omega) h2 k
      omega
    refine ⟨?_, ?_, ?_, ?_⟩
    · show 0 ≤ mn _ _
      rcases mn_mx (rd (natsI O) e.f0) (rd (natsI O) e.f1) with ⟨_, k1, k2⟩ | ⟨_, k1, k2⟩ <;> omega
    · show mn _ _ < mx _ _
      rcases mn_mx (rd (natsI O) e.f0) (rd (natsI O) e.f1) with ⟨_, k1, k2⟩ | ⟨_, k1, k2⟩ <;> omega
    · show mx _ _ < _
      rcases mn_mx (rd (natsI O) e.f0) (rd (natsI O) e.f1) with ⟨_, k1, k2⟩ | ⟨_, k1, k2⟩ <;> omega
    · intro y hy
      obtain ⟨x, hx, rfl⟩ := List.mem_map.1 hy
      obtain ⟨x0, x1, x2⟩ := hs x hx
      have hne := h3 x hx
      rintro ⟨e1, e2⟩
      have e1' : mn (rd (natsI O) x.f0) (rd (natsI O) x.f1) = mn (rd (natsI O) e.f0) (rd (natsI O) e.f1) := e1
      have e2' : mx (rd (natsI O) x.f0) (rd (natsI O) x.f1) = mx (rd (natsI O) e.f0) (rd (natsI O) e.f1) := e2
      have i1 := h.inj (a := x.f0) (b := e.f0) x0 (by omega) h0 (by omega)
      have i2 := h.inj (a := x.f0) (b := e.f1) x0 (by omega) (by omega) h2
      have i3 := h.inj (a := x.f1) (b := e.f0) (by omega) x2 h0 (by omega)
      have i4 := h.inj (a := x.f1) (b := e.f1) (by omega) x2 (by omega) h2
      rcases mn_mx (rd (natsI O) x.f0) (rd (natsI O) x.f1) with ⟨_, k1, k2⟩ | ⟨_, k1, k2⟩ <;> rcases mn_mx (rd (natsI O) e.f0) (rd (natsI O) e.f1) with ⟨_, k3, k4⟩ | ⟨_, k3, k4⟩
      · have := i1 (by omega); have := i4 (by omega); omega
      · have := i2 (by omega); have := i3 (by omega); omega
      · have := i2 (by omega); have := i3 (by omega); omega
      · have := i1 (by omega); have := i4 (by omega); omega
theorem Mix.iso {O : List Nat} {n : Nat} {l : List S48} (h : Mix O n) (hg : GOk n l (nearOf l)) (hg' : GOk n (l.map (reE O)) (nearOf (l.map (reE O)))) : Iso n (pOf O) (qOf O) (nearOf l) (nearOf (l.map (reE O))) where
  perm := h.perm
  lt := hg.lt
  lt' := hg'.lt
  adj := fun i j hi hj => by
    have ri := h.rdN hi
    have rj := h.rdN hj
    rw [Bool.eq_iff_iff, hg'.adj, hg.adj]
    constructor
    · rintro ⟨y, hy, hm⟩
      obtain ⟨e, he, rfl⟩ := List.mem_map.1 hy
      obtain ⟨h0, h1, h2⟩ := hg.ok e he
      refine ⟨e, he, ?_⟩
      have hm' : (mn (rd (natsI O) e.f0) (rd (natsI O) e.f1) = (pOf O i : Int) ∧ mx (rd (natsI O) e.f0) (rd (natsI O) e.f1) = (pOf O j : Int)) ∨ (mn (rd (natsI O) e.f0) (rd (natsI O) e.f1) = (pOf O j : Int) ∧ mx (rd (natsI O) e.f0) (rd (natsI O) e.f1) = (pOf O i : Int)) := hm
      have i1 := h.inj (a := e.f0) (b := (i : Int)) h0 (by omega) (by omega) (by omega)
      have i2 := h.inj (a := e.f0) (b := (j : Int)) h0 (by omega) (by omega) (by omega)
      have i3 := h.inj (a := e.f1) (b := (i : Int)) (by omega) h2 (by omega) (by omega)
      have i4 := h.inj (a := e.f1) (b := (j : Int)) (by omega) h2 (by omega) (by omega)
      rcases mn_mx (rd (natsI O) e.f0) (rd (natsI O) e.f1) with ⟨_, k1, k2⟩ | ⟨_, k1, k2⟩ <;> rcases hm' with ⟨m1, m2⟩ | ⟨m1, m2⟩
      · exact .inl ⟨i1 (by omega), i4 (by omega)⟩
      · exact .inr ⟨i2 (by omega), i3 (by omega)⟩
      · exact .inr ⟨i2 (by omega), i3 (by omega)⟩
      · exact .inl ⟨i1 (by omega), i4 (by omega)⟩
    · rintro ⟨e, he, hm⟩
      refine ⟨reE O e, List.mem_map.2 ⟨e, he, rfl⟩, ?_⟩
      show (mn (rd (natsI O) e.f0) (rd (natsI O) e.f1) = (pOf O i : Int) ∧ mx (rd (natsI O) e.f0) (rd (natsI O) e.f1) = (pOf O j : Int)) ∨ (mn (rd (natsI O) e.f0) (rd (natsI O) e.f1) = (pOf O j : Int) ∧ mx (rd (natsI O) e.f0) (rd (natsI O) e.f1) = (pOf O i : Int))
      rcases hm with ⟨m1, m2⟩ | ⟨m1, m2⟩ <;> rw [m1, m2, ri, rj] <;> rcases mn_mx (pOf O i : Int) (pOf O j : Int) with ⟨_, k1, k2⟩ | ⟨_, k1, k2⟩ <;> rcases mn_mx (pOf O j : Int) (pOf O i : Int) with ⟨_, k3, k4⟩ | ⟨_, k3, k4⟩ <;> omega
theorem set_ren {O : List Nat} {n s : Nat} (h : Mix O n) (hn : n ≤ 12) (hs : s < 2 ^ n) : ofList ((bitsOf s).map (pOf O)) = ren n (qOf O) s := ext_bit fun j => by
  rw [testBit_ofList, decide_eq_true_iff, testBit_ren, List.mem_map]
  constructor
  · rintro ⟨i, hi, rfl⟩
    have hb := (mem_bitsOf.1 hi).2
    have hin := bit_lt hs hb
    exact ⟨h.perm.p_lt i hin, by rw [h.perm.left i hin]; exact hb⟩
  · rintro ⟨h1, h2⟩
    have := bit_lt hs h2
    exact ⟨qOf O j, mem_bitsOf.2 ⟨by omega, h2⟩, h.perm.right j h1⟩
theorem rd_L {n i : Nat} {ρ : Nat → Int} (h : i < n) : rd (L n ρ) (i : Int) = ρ i := by
  rw [rd_at (by rw [L_length]; exact h)]
  simp [L]
section
variable {n : Nat} {l : List S48} {O : List Nat}
theorem renamed_l3 (h : Mix O n) (hn : n ≤ 12) {ρ ρ' : Nat → Int} (hρ : ∀ i, i < n → ρ' (pOf O i) = ρ i) (x24 x26 : List Int) (x28 x30 : List (List Int)) (x33 x35 : List Int) (e1 : x24.length = x26.length) (e2 : x28.length = x30.length) (e3 : x33.length = x35.length) : ∀ (d i : Nat), i + d = n →
    Ev (fun k => numnahlaw06_WettingRenamed.l3 k (n : Int) (natsI O) (L n ρ) (L n ρ') x24 x26 x28 x30 x33 x35 (i : Int)) true := by
  intro d
  induction d with
  | zero =>
    intro i hi
    refine Ev.step (fun k => ?_) ev_awake
    simp only [numnahlaw06_WettingRenamed.l3]
    rw [if_neg (by omega), if_pos (by omega), if_pos (by omega), if_pos (by omega)]
  | succ d ih =>
    intro i hi
    have hin : i < n := by omega
    have hp := h.perm.p_lt i hin
    refine Ev.step (fun k => ?_) (ih (i + 1) (by omega))
    simp only [numnahlaw06_WettingRenamed.l3]
    rw [if_pos (by omega), if_pos (by omega), L_length, if_pos (by omega), natsI_length, h.len, if_pos (by omega), h.rdN hin, if_pos (by omega), L_length, if_pos (by omega), rd_L hin, rd_L hp, hρ i hin, if_pos rfl, wrap_succ (by omega)]
theorem renamed_l2 (h : Mix O n) (hT : Tamed n l) (hT' : Tamed n (l.map (reE O))) {s : Nat} (hs : s < 2 ^ n) (x16 : Int) : ∀ (d i : Nat), i + d = (bitsOf s).length →
    Ev (fun k => numnahlaw06_WettingRenamed.l2 k (n : Int) l (natsI O) (l.map (reE O)) x16 (natsI (bitsOf s)) ((ofList (((bitsOf s).take i).map (pOf O)) : Nat) : Int) (i : Int)) true := by
  have hn := hT.g.le
  have h12 := p12 hn
  have hI := h.iso hT.g hT'.g
  have hcard : (bitsOf s).length ≤ 12 := card_lt64 (hT.small hs)
  have hall : ∀ i, ofList (((bitsOf s).take i).map (pOf O)) < 2 ^ n := fun i => ofList_lt fun x hx => by
    obtain ⟨v, hv, rfl⟩ := List.mem_map.1 hx
    exact h.perm.p_lt v (bit_lt hs (mem_bitsOf.1 (List.mem_of_mem_take hv)).2)
  intro d
  induction d with
  | zero =>
    intro i hi
    rw [List.take_of_length_le (by omega), set_ren h hn hs]
    have hr : ren n (qOf O) s < 2 ^ n := ren_lt
    obtain ⟨m, hm, hm4⟩ := mod_f x16 (n := 4) (by omega) (by omega)
    have e4 : wrap64 (1 + (m : Int)) = ((m + 1 : Nat) : Int) := by unfold wrap64; omega
    have hm' : numnahlaw06_mod.f x16 4 = some (m : Int) := hm
    apply Ev.step
    · intro k
      simp only [numnahlaw06_WettingRenamed.l2]
      rw [if_neg (by rw [natsI_length]; omega), hT.rounds hs, Option.bind_some]
    · refine Ev.bind (ev_list (hT.small hr)) ?_
      simp only [hT'.rounds hr, hT.least, hT'.least, hT.forts, hT'.forts, hm', e4, hT.fewest (r := ((m + 1 : Nat) : Int)) ⟨by omega, by omega⟩, hT'.fewest (r := ((m + 1 : Nat) : Int)) ⟨by omega, by omega⟩, Option.bind_some, L_length, if_true]
      have e5 : ((n : Int) != (n : Int)) = false := by simp
      rw [e5]
      have hcl := closeR_ren h.perm hn (good_forced hI.lt) (fun _ hs => hI.forced hn hs) hs
      apply Ev.step
      · intro k
        simp only [numnahlaw06_WettingRenamed.j4]
        rw [if_neg (by simp)]
      · refine renamed_l3 h hn hcl.2 _ _ _ _ _ _ ?_ ?_ ?_ n 0 (by omega)
        · rw [natsI_length, natsI_length]; exact (hI.least hn).symm
        · rw [List.length_map, List.length_map]; exact hI.forts hn
        · rw [natsI_length, natsI_length]; exact (hI.fewest hn _).symm
  | succ d ih =>
    intro i hi
    have hil : i < (bitsOf s).length := by omega
    obtain ⟨v, hv⟩ : ∃ v, (bitsOf s)[i] = v := ⟨_, rfl⟩
    have hvm : v ∈ bitsOf s := by rw [← hv]; exact List.getElem_mem _
    have hvn := bit_lt hs (mem_bitsOf.1 hvm).2
    have hp := h.perm.p_lt v hvn
    have hpw : 2 ^ pOf O v < 2 ^ n := Nat.pow_lt_pow_right (by decide) hp
    have hlt := hall i
    refine Ev.step (fun k => ?_) (ih (i + 1) (by omega))
    simp only [numnahlaw06_WettingRenamed.l2]
    have e : ofList (((bitsOf s).take (i + 1)).map (pOf O)) = ofList (((bitsOf s).take i).map (pOf O)) ||| 2 ^ pOf O v := by
      rw [List.take_succ_eq_append_getElem hil, List.map_append, hv]
      unfold ofList
      rw [List.foldl_append]
      rfl
    rw [e, if_pos (by rw [natsI_length]; omega), if_pos (by omega), rd_nats hil, hv, if_pos (by omega), natsI_length, h.len, if_pos (by omega), h.rdN hvn, if_pos (by omega), shl_i (by omega), orI (by omega) (by omega), wrap_succ (by omega)]
theorem renamed_j2 (h : Mix O n) (hT : Tamed n l) (hT' : Tamed n (l.map (reE O))) (x16 : Int) : Ev (fun k => numnahlaw06_WettingRenamed.j2 k (n : Int) l (natsI O) (l.map (reE O)) x16) true := by
  obtain ⟨s, hs, hse⟩ := ev_some hT.g.le x16
  refine Ev.step (f := fun k => (numnahlaw06_some.f k (n : Int) x16).bind fun t332 => (numnahlaw06_WettingRenamed.l2 k (n : Int) l (natsI O) (l.map (reE O)) x16 t332 0 0)) (fun k => by simp only [numnahlaw06_WettingRenamed.j2]) ?_
  refine Ev.bind hse ?_
  exact renamed_l2 h hT hT' hs x16 (bitsOf s).length 0 (by omega)
theorem renamed_l1 (h : Mix O n) (hT : Tamed n l) (hT' : Tamed n (l.map (reE O))) (x2 : List Int) : ∀ (d i : Nat), i + d = l.length →
    Ev (fun k => numnahlaw06_WettingRenamed.l1 k (n : Int) x2 l (natsI O) ((l.take i).map (reE O)) (i : Int)) true := by
  have hlen := hT.len
  intro d
  induction d with
  | zero =>
    intro i hi
    rw [List.take_of_length_le (by omega)]
    by_cases h0 : (x2.length : Int) > 0
    · refine Ev.step (fun k => ?_) (renamed_j2 h hT hT' (rd x2 0))
      simp only [numnahlaw06_WettingRenamed.l1]
      rw [if_neg (by omega), if_pos h0, if_pos (by omega)]
    · refine Ev.step (fun k => ?_) (renamed_j2 h hT hT' 0)
      simp only [numnahlaw06_WettingRenamed.l1]
      rw [if_neg (by omega), if_neg h0]
  | succ d ih =>
    intro i hi
    have hil : i < l.length := by omega
    obtain ⟨h0, h1, h2⟩ := hT.g.ok l[i] (List.getElem_mem hil)
    refine Ev.step (fun k => ?_) (ih (i + 1) (by omega))
    simp only [numnahlaw06_WettingRenamed.l1]
    rw [if_pos (by omega), if_pos (by omega), rd_T hil, if_pos h0, natsI_length, h.len, if_pos (by omega), if_pos (by omega), if_pos (by omega), if_pos (by rw [List.length_map, List.length_take]; omega), wrap_succ (by omega), List.take_succ_eq_append_getElem hil, List.map_append]
    rfl
theorem renamed_l0 (hT : Tamed n l) (he : edgesB (n : Int) [] l = true) (x2 : List Int) : ∀ (d i : Nat) (O : List Nat), i + d = n → Mix O i →
    Ev (fun k => numnahlaw06_WettingRenamed.l0 k (n : Int) x2 l (natsI O) (i : Int)) true := by
  have hn := hT.g.le
  intro d
  induction d with
  | zero =>
    intro i O hi h
    have e : i = n := by omega
    subst e
    have hT' := tamed_of hT.g.pos hT.g.le (h.edges l [] (fun x hx => by cases hx) he)
    refine Ev.step (fun k => ?_) (renamed_l1 h hT hT' x2 l.length 0 (by omega))
    simp only [numnahlaw06_WettingRenamed.l0]
    rw [if_neg (by omega)]
    rfl
  | succ d ih =>
    intro i O hi h
    have go : ∀ r : Nat, r ≤ i → ∀ y, y = natsI O → Ev (fun k => numnahlaw06_WettingRenamed.l0 k (n : Int) x2 l (([] ++ y.take (r : Int).toNat) ++ [(i : Int)] ++ y.drop (r : Int).toNat) ((i + 1 : Nat) : Int)) true := by
      intro r hr y hy
      have e : ([] ++ y.take (r : Int).toNat) ++ [(i : Int)] ++ y.drop (r : Int).toNat = natsI (O.take r ++ [i] ++ O.drop r) := by
        rw [hy, Int.toNat_natCast]
        unfold natsI
        simp [List.map_take, List.map_drop]
      rw [e]
      exact ih (i + 1) _ (by omega) (h.ins r)
    have hl : (natsI O).length = i := by rw [natsI_length, h.len]
    have c1 : (0 : Int) ≤ (i : Int) := by omega
    have bnd : ∀ r : Nat, r ≤ i → ([] : List Int).length + ((natsI O).take (r : Int).toNat).length < 17592186044416 ∧ (([] : List Int) ++ (natsI O).take (r : Int).toNat).length < 17592186044416 ∧ ((([] : List Int) ++ (natsI O).take (r : Int).toNat) ++ [(i : Int)]).length + ((natsI O).drop (r : Int).toNat).length < 17592186044416 := by
      intro r hr
      simp only [List.length_append, List.length_take, List.length_drop, hl, List.length_nil, List.length_singleton]
      omega
    by_cases hx : wrap64 ((i : Int) + 1) < (x2.length : Int)
    · obtain ⟨r, hr, hr1⟩ := mod_f (rd x2 ((i + 1 : Nat) : Int)) (n := i + 1) (by omega) (by omega)
      obtain ⟨b1, b2, b3⟩ := bnd r (by omega)
      refine Ev.step (fun k => ?_) (go r (by omega) _ rfl)
      rw [wrap_succ (by omega)] at hx
      simp only [numnahlaw06_WettingRenamed.l0]
      rw [if_pos (by omega), wrap_succ (by omega), if_pos hx, if_pos (by omega), hr, Option.bind_some, if_pos (by omega), hl, if_pos (by omega), Option.bind_some, if_pos b1, Option.bind_some, if_pos b2, Option.bind_some, Option.bind_some, if_pos b3]
    · obtain ⟨b1, b2, b3⟩ := bnd i (by omega)
      refine Ev.step (fun k => ?_) (go i (by omega) _ rfl)
      simp only [numnahlaw06_WettingRenamed.l0]
      rw [if_pos (by omega), if_neg hx, if_pos (by omega), hl, if_pos (by omega), Option.bind_some, if_pos b1, Option.bind_some, if_pos b2, Option.bind_some, Option.bind_some, if_pos b3, wrap_succ (by omega)]
end
theorem renamed_pure (a0 : Int) (_ : inI a0) (l : List S48) (hl : fitL l) (l2 : List Int) (_ : fitL l2) : ∃ k, numnahlaw06_WettingRenamed.f k a0 l l2 = some true := by
  obtain ⟨n, out, h1, h2, h3, hv⟩ := ev_tame a0 (l := l) (by unfold fitL at hl; omega)
  refine Ev.rounds ?_
  simp only [numnahlaw06_WettingRenamed.f]
  refine Ev.bind hv ?_
  exact renamed_l0 (tamed_of h1 h2 h3) h3 l2 n 0 [] (by omega) ⟨rfl, List.nodup_nil, fun x hx => by cases hx⟩
end Go.Proofs.YtpbeaaihdmfnlaaDoor.P
