/- Several texts, joined. -/
import Derived.Test.YtpbeaaihdmfnlaaDoorQB5

/- ### Pj -/
namespace Go.Proofs.YtpbeaaihdmfnlaaDoor.P
open Go Go.RowKit Go.Proofs.YtpbeaaihdmfnlaaDoor.M Go.Proofs.YtpbeaaihdmfnlaaDoor.H Go.Proofs.YtpbeaaihdmfnlaaDoor.G
open Go.Proofs.YtpbeaaihdmfnlaaDoorW.PrintWords Go.Proofs.YtpbeaaihdmfnlaaDoorW.PrintMore
theorem fort_iff {n s : Nat} {near : Nat → Nat} (hn : n ≤ 64) : fortM n near s = true ↔ s ≠ 0 ∧ ∀ v, v < n → s.testBit v = false → card (near v &&& s) ≠ 1 := by
  unfold fortM fortAt
  rw [Bool.and_eq_true, decide_eq_true_iff, List.all_eq_true]
  constructor
  · rintro ⟨h1, h2⟩
    refine ⟨by omega, fun v hv hs hc => ?_⟩
    have := h1 v (mem_bitsOf.2 ⟨by omega, by rw [testBit_andNot, testBit_full, hs, decide_eq_true hv]; rfl⟩)
    rw [hc] at this; simp at this
  · rintro ⟨h1, h2⟩
    refine ⟨fun v hv => ?_, by omega⟩
    rw [mem_bitsOf, testBit_andNot, testBit_full] at hv
    have h3 := hv.2
    rw [Bool.and_eq_true, decide_eq_true_iff, Bool.not_eq_true'] at h3
    have := h2 v h3.1 h3.2
    simpa using this
theorem ev_fort_l {near : Nat → Nat} {n s : Nat} (hn : n ≤ 12) (hr : ∀ v, near v < 2 ^ n) (hs : s < 2 ^ n) : ∀ (d i : Nat), i + d = n →
    Ev (fun k => numnahref06_Fort.l0 k (R near n) (s : Int) (i : Int)) (((List.range' i d).all fun v => s.testBit v || fortAt near s v) && decide (0 < s)) := by
  have hs' : s < 4096 := Nat.lt_of_lt_of_le hs (p12 hn)
  intro d
  induction d with
  | zero =>
    intro i hi
    refine Ev.step (f := fun _ => some (decide (0 < s))) (fun k => ?_) (Ev.now _)
    simp only [numnahref06_Fort.l0]
    rw [R_length, if_neg (by omega)]
    congr 1
    rw [Bool.eq_iff_iff, decide_eq_true_iff, decide_eq_true_iff]; omega
  | succ d ih =>
    intro i hi
    have hlt : i < n := by omega
    have hni : near i < 4096 := Nat.lt_of_lt_of_le (hr i) (p12 hn)
    have ha : near i &&& s < 4096 := and_lt hni
    rw [List.range'_succ, List.all_cons]
    cases hb : s.testBit i with
    | true =>
      rw [Bool.true_or, Bool.true_and]
      refine Ev.step (fun k => ?_) (ih (i + 1) (by omega))
      simp only [numnahref06_Fort.l0]
      rw [R_length, if_pos (by omega), if_pos (by omega), tmod_bit (by omega), hb, if_neg (by simp), wrap_succ (by omega)]
    | false =>
      rw [Bool.false_or]
      refine Ev.step (f := fun k => (numnahref06_Count.f k ((near i &&& s : Nat) : Int)).bind fun t137 => (if t137 = 1 then (some false) else (numnahref06_Fort.l0 k (R near n) (s : Int) ((i + 1 : Nat) : Int)))) (fun k => ?_) ?_
      · simp only [numnahref06_Fort.l0]
        rw [R_length, if_pos (by omega), if_pos (by omega), tmod_bit (by omega), hb, if_pos (by simp), wrap_succ (by omega), rd_R hlt, andI hni hs']
      · refine Ev.bind (ev_count ha) ?_
        by_cases hc : card (near i &&& s) = 1
        · have e : fortAt near s i = false := by unfold fortAt; rw [hc]; rfl
          rw [e, Bool.false_and, Bool.false_and]
          exact Ev.congr (fun k => if_pos (by omega)) (Ev.now _)
        · have e : fortAt near s i = true := by unfold fortAt; simpa using hc
          rw [e, Bool.true_and]
          exact Ev.congr (fun k => if_neg (by omega)) (ih (i + 1) (by omega))
theorem ev_fort {near : Nat → Nat} {n s : Nat} (hn : n ≤ 12) (hr : ∀ v, near v < 2 ^ n) (hs : s < 2 ^ n) : Ev (fun k => numnahref06_Fort.f k (R near n) (s : Int)) (fortM n near s) := by
  have h := ev_fort_l hn hr hs n 0 (by omega)
  have e : (((List.range' 0 n).all fun v => s.testBit v || fortAt near s v) && decide (0 < s)) = fortM n near s := by
    rw [Bool.eq_iff_iff, fort_iff (by omega), Bool.and_eq_true, decide_eq_true_iff, List.all_eq_true]
    constructor
    · rintro ⟨h1, h2⟩
      refine ⟨by omega, fun v hv hs hc => ?_⟩
      have := h1 v (by rw [List.mem_range']; exact ⟨v, hv, by omega⟩)
      unfold fortAt at this
      rw [hs, hc] at this; simp at this
    · rintro ⟨h1, h2⟩
      refine ⟨fun v hv => ?_, by omega⟩
      rw [List.mem_range'] at hv
      obtain ⟨j, hj, rfl⟩ := hv
      cases hb : s.testBit (0 + 1 * j) with
      | true => rfl
      | false =>
        have := h2 (0 + 1 * j) (by omega) hb
        unfold fortAt
        simpa using this
  rw [e] at h
  exact h
/-- A fort that contains no smaller one. -/
def MinFort (n : Nat) (near : Nat → Nat) (x : Nat) : Prop := fortM n near x = true ∧ ∀ y, Sub y x → fortM n near y = true → y = x
theorem fort_ne {n x : Nat} {near : Nat → Nat} (h : fortM n near x = true) : x ≠ 0 := by
  unfold fortM at h
  rw [Bool.and_eq_true, decide_eq_true_iff] at h
  omega
theorem min_inside {n : Nat} {near : Nat → Nat} : ∀ (b x : Nat), x < b → fortM n near x = true → ∃ y, Sub y x ∧ MinFort n near y
  | 0, x, h, _ => by omega
  | b + 1, x, h, hf => by
    by_cases hm : ∀ y, Sub y x → fortM n near y = true → y = x
    · exact ⟨x, Sub.refl x, hf, hm⟩
    · obtain ⟨y, hy⟩ : ∃ y, ¬ (Sub y x → fortM n near y = true → y = x) := Classical.not_forall.1 hm
      have h1 : Sub y x := Classical.byContradiction fun h => hy (fun k => absurd k h)
      have h2 : fortM n near y = true := Classical.byContradiction fun h => hy (fun _ k => absurd k h)
      have h3 : y ≠ x := fun h => hy (fun _ _ => h)
      have h4 := le_of_sub h1
      obtain ⟨z, hz1, hz2⟩ := min_inside b y (by omega) h2
      exact ⟨z, hz1.trans h1, hz2⟩
/-- One step of a search that meets each set behind all its parts. -/
theorem min_step {n x : Nat} {near : Nat → Nat} {acc pre : List Nat} (hpre : ∀ z, Sub z x → z ≠ x → z ≠ 0 → z ∈ pre) (hx : x ∉ pre) (hacc : ∀ t, t ∈ acc ↔ t ∈ pre ∧ MinFort n near t) :
    (fortM n near x = true ∧ acc.any (fun t => andNot t x == 0) = false) ↔ MinFort n near x := by
  rw [List.any_eq_false]
  constructor
  · rintro ⟨h1, h2⟩
    refine ⟨h1, fun y hy hf => ?_⟩
    refine Classical.byContradiction fun hne => ?_
    obtain ⟨z, hz1, hz2⟩ := min_inside (y + 1) y (by omega) hf
    have hzx : Sub z x := hz1.trans hy
    have hzne : z ≠ x := by
      rintro rfl
      exact hne (hy.antisymm hz1)
    have := (hacc z).2 ⟨hpre z hzx hzne (fort_ne hz2.1), hz2⟩
    exact h2 z this (by rw [beq_iff_eq]; exact andNot_zero.2 hzx)
  · rintro ⟨h1, h2⟩
    refine ⟨h1, fun t ht h => ?_⟩
    rw [beq_iff_eq] at h
    have h3 := (hacc t).1 ht
    have := h2 t (andNot_zero.1 h) h3.2.1
    rw [this] at h3
    exact hx h3.1
/-- The program's list: what is in it, and its order. -/
theorem forts_fold {n : Nat} {near : Nat → Nat} : ∀ (l pre acc : List Nat), (pre ++ l).Pairwise (fun a b => beforeB a b = true) → (∀ z x, x ∈ l → Sub z x → z ≠ x → z ≠ 0 → z ∈ pre ++ l) → (∀ z x, z ∈ l → x ∈ l → Sub z x → z ≠ x → beforeB z x = true) →
    (∀ t, t ∈ acc ↔ t ∈ pre ∧ MinFort n near t) → acc.Pairwise (fun a b => beforeB a b = true) →
    (∀ t, t ∈ l.foldl (fortsStep n near) acc ↔ t ∈ pre ++ l ∧ MinFort n near t) ∧ (l.foldl (fortsStep n near) acc).Pairwise (fun a b => beforeB a b = true)
  | [], pre, acc, _, _, _, ha, hs => by simpa using ⟨ha, hs⟩
  | x :: l, pre, acc, hp, hz, ho, ha, hs => by
    have hp2 := List.pairwise_append.1 hp
    have hp3 := List.pairwise_cons.1 hp2.2.1
    have hx : x ∉ pre := fun h => by have := hp2.2.2 x h x (by simp); rw [before_irrefl] at this; cases this
    have hpre : ∀ z, Sub z x → z ≠ x → z ≠ 0 → z ∈ pre := by
      intro z h1 h2 h3
      rcases List.mem_append.1 (hz z x (by simp) h1 h2 h3) with h | h
      · exact h
      · rcases List.mem_cons.1 h with rfl | h
        · exact absurd rfl h2
        · have h4 := hp3.1 z h
          have h5 := ho z x (by simp [h]) (by simp) h1 h2
          rw [before_asymm h4] at h5; cases h5
    have hstep := min_step hpre hx ha
    have e : pre ++ x :: l = (pre ++ [x]) ++ l := by simp
    rw [List.foldl_cons, e]
    rw [e] at hp hz
    refine forts_fold l (pre ++ [x]) (fortsStep n near acc x) hp (fun z y hy => hz z y (by simp [hy])) (fun z y h1 h2 => ho z y (by simp [h1]) (by simp [h2])) (fun t => ?_) ?_
    · unfold fortsStep
      by_cases hm : MinFort n near x
      · rw [if_pos (hstep.2 hm), List.mem_append, List.mem_append, List.mem_singleton, ha t]
        constructor
        · rintro (h | rfl)
          · exact ⟨.inl h.1, h.2⟩
          · exact ⟨.inr rfl, hm⟩
        · rintro ⟨h | rfl, h2⟩
          · exact .inl ⟨h, h2⟩
          · exact .inr rfl
      · rw [if_neg (fun h => hm (hstep.1 h)), ha t, List.mem_append, List.mem_singleton]
        constructor
        · rintro ⟨h1, h2⟩; exact ⟨.inl h1, h2⟩
        · rintro ⟨h | rfl, h2⟩
          · exact ⟨h, h2⟩
          · exact absurd h2 hm
    · unfold fortsStep
      split
      · rw [List.pairwise_append]
        refine ⟨hs, by simp, fun a h1 b h2 => ?_⟩
        obtain rfl := List.mem_singleton.1 h2
        exact hp2.2.2 a ((ha a).1 h1).1 b (by simp)
      · exact hs
theorem sub_before {z x n : Nat} (hx : x < 2 ^ n) (hn : n ≤ 64) (h : Sub z x) (hne : z ≠ x) : beforeB z x = true := by
  have h64 : 2 ^ n ≤ 2 ^ 64 := Nat.pow_le_pow_right (by decide) hn
  have hlt : card z < card x := by
    have hle := card_mono h
    refine Nat.lt_of_le_of_ne hle fun e => hne (eq_of_card h (by omega) (by omega))
  unfold beforeB
  rw [if_neg (by omega)]
  exact decide_eq_true hlt
theorem mem_rest {n x : Nat} (hn : n ≤ 64) : x ∈ restL n 1 ↔ x < 2 ^ n ∧ x ≠ 0 := by
  unfold restL
  rw [List.mem_flatMap]
  constructor
  · rintro ⟨m, hm, hx⟩
    rw [List.mem_range'] at hm
    obtain ⟨h1, h2⟩ := (mem_chosen hn).1 hx
    refine ⟨h1, fun e => ?_⟩
    rw [e, card_zero] at h2
    omega
  · rintro ⟨h1, h2⟩
    have h64 : 2 ^ n ≤ 2 ^ 64 := Nat.pow_le_pow_right (by decide) hn
    have h3 : card x ≠ 0 := fun e => h2 ((card_eq_zero (by omega)).1 e)
    have h4 := card_le h1 hn
    refine ⟨card x, ?_, (mem_chosen hn).2 ⟨h1, rfl⟩⟩
    rw [List.mem_range']
    exact ⟨card x - 1, by omega, by omega⟩
theorem forts_spec {n : Nat} {near : Nat → Nat} (hn : n ≤ 12) : (∀ t, t ∈ fortsM n near ↔ t < 2 ^ n ∧ MinFort n near t) ∧ (fortsM n near).Pairwise (fun a b => beforeB a b = true) := by
  have e : fortsM n near = (restL n 1).foldl (fortsStep n near) [] := by unfold fortsM restL; rw [show n + 1 - 1 = n by omega]
  have h64 : n ≤ 64 := by omega
  obtain ⟨h1, h2⟩ := forts_fold (n := n) (near := near) (restL n 1) [] [] (by rw [List.nil_append]; exact rest_before h64 _ _) (fun z x hx hs hne h0 => by
      rw [List.nil_append, mem_rest h64]
      exact ⟨lt_of_sub hs ((mem_rest h64).1 hx).1, h0⟩) (fun z x _ hx hs hne => sub_before ((mem_rest h64).1 hx).1 h64 hs hne) (by simp) List.Pairwise.nil
  rw [e]
  refine ⟨fun t => ?_, h2⟩
  rw [h1 t, List.nil_append, mem_rest h64]
  constructor
  · rintro ⟨h3, h4⟩; exact ⟨h3.1, h4⟩
  · rintro ⟨h3, h4⟩; exact ⟨⟨h3, fort_ne h4.1⟩, h4⟩
/-- Sorted by Before, with the same members. -/
theorem eq_of_before : ∀ {l m : List Nat}, l.Pairwise (fun a b => beforeB a b = true) → m.Pairwise (fun a b => beforeB a b = true) → (∀ x, x ∈ l ↔ x ∈ m) → l = m
  | [], [], _, _, _ => rfl
  | [], y :: m, _, _, h => by have := (h y).2 (by simp); cases this
  | x :: l, [], _, _, h => by have := (h x).1 (by simp); cases this
  | x :: l, y :: m, hl, hm, h => by
    rw [List.pairwise_cons] at hl hm
    have hxy : x = y := by
      have h1 := (h x).1 (by simp)
      have h2 := (h y).2 (by simp)
      rcases List.mem_cons.1 h1 with h1 | h1
      · exact h1
      · rcases List.mem_cons.1 h2 with h2 | h2
        · exact h2.symm
        · have := hl.1 y h2; have h3 := hm.1 x h1; rw [before_asymm this] at h3; cases h3
    subst hxy
    rw [eq_of_before hl.2 hm.2 (fun z => ?_)]
    have hz := h z
    rw [List.mem_cons, List.mem_cons] at hz
    constructor
    · intro hzl
      rcases hz.1 (.inr hzl) with rfl | h
      · have := hl.1 z hzl; rw [before_irrefl] at this; cases this
      · exact h
    · intro hzm
      rcases hz.2 (.inr hzm) with rfl | h
      · have := hm.1 z hzm; rw [before_irrefl] at this; cases this
      · exact h
/-- The reference's list: a new fort goes behind all that come before it. -/
def insB (s : Nat) (out : List Nat) : List Nat := out.takeWhile (beforeB · s) ++ [s] ++ out.dropWhile (beforeB · s)
theorem mem_ins {s t : Nat} {out : List Nat} : t ∈ insB s out ↔ t = s ∨ t ∈ out := by
  have e : t ∈ out ↔ t ∈ out.takeWhile (beforeB · s) ∨ t ∈ out.dropWhile (beforeB · s) := by rw [← List.mem_append, List.takeWhile_append_dropWhile]
  unfold insB
  rw [List.mem_append, List.mem_append, List.mem_singleton, e]
  constructor
  · rintro ((h | h) | h)
    · exact .inr (.inl h)
    · exact .inl h
    · exact .inr (.inr h)
  · rintro (h | h | h)
    · exact .inl (.inr h)
    · exact .inl (.inl h)
    · exact .inr h
theorem ins_sorted {s n : Nat} (hn : n ≤ 64) (hs : s < 2 ^ n) : ∀ {out : List Nat}, out.Pairwise (fun a b => beforeB a b = true) → (∀ t ∈ out, t < 2 ^ n) → s ∉ out → (insB s out).Pairwise (fun a b => beforeB a b = true)
  | [], _, _, _ => by simp [insB]
  | x :: out, hp, hlt, hx => by
    have h64 : 2 ^ n ≤ 2 ^ 64 := Nat.pow_le_pow_right (by decide) hn
    rw [List.pairwise_cons] at hp
    cases hb : beforeB x s with
    | true =>
      have e : insB s (x :: out) = x :: insB s out := by unfold insB; rw [List.takeWhile_cons, List.dropWhile_cons, hb]; rfl
      rw [e, List.pairwise_cons]
      refine ⟨fun y hy => ?_, ins_sorted hn hs hp.2 (fun t ht => hlt t (by simp [ht])) (fun h => hx (by simp [h]))⟩
      rcases mem_ins.1 hy with rfl | hy
      · exact hb
      · exact hp.1 y hy
    | false =>
      have e : insB s (x :: out) = s :: x :: out := by unfold insB; rw [List.takeWhile_cons, List.dropWhile_cons, hb]; rfl
      have hsx : beforeB s x = true := by
        have := hlt x (by simp)
        rcases before_total (a := x) (b := s) (by omega) (by omega) (fun e => hx (by simp [e])) with h | h
        · rw [hb] at h; cases h
        · exact h
      rw [e, List.pairwise_cons]
      refine ⟨fun y hy => ?_, List.pairwise_cons.2 hp⟩
      rcases List.mem_cons.1 hy with rfl | hy
      · exact hsx
      · exact before_trans hsx (hp.1 y hy)
def refStep (n : Nat) (near : Nat → Nat) (acc : List Nat) (x : Nat) : List Nat := if fortM n near x = true ∧ acc.any (fun t => andNot t x == 0) = false then insB x acc else acc
/-- Behind all numbers below i: the forts among them without smaller ones, in their order. -/
def RefInv (n : Nat) (near : Nat → Nat) (i : Nat) (acc : List Nat) : Prop := (∀ t, t ∈ acc ↔ t < i ∧ t < 2 ^ n ∧ MinFort n near t) ∧ acc.Pairwise (fun a b => beforeB a b = true)
theorem RefInv.step {n i : Nat} {near : Nat → Nat} {acc : List Nat} (hn : n ≤ 64) (h : RefInv n near i acc) (hi : i < 2 ^ n) : RefInv n near (i + 1) (refStep n near acc i) := by
  have hstep := min_step (n := n) (x := i) (near := near) (acc := acc) (pre := List.range i) (fun z h1 h2 _ => by rw [List.mem_range]; have := le_of_sub h1; omega) (by simp) (fun t => by
    rw [h.1 t, List.mem_range]
    constructor
    · rintro ⟨h1, h2, h3⟩; exact ⟨h1, h3⟩
    · rintro ⟨h1, h3⟩; exact ⟨h1, by omega, h3⟩)
  have hni : i ∉ acc := fun hm => by have := ((h.1 i).1 hm).1; omega
  unfold refStep
  by_cases hm : MinFort n near i
  · rw [if_pos (hstep.2 hm)]
    refine ⟨fun t => ?_, ins_sorted hn hi h.2 (fun t ht => ((h.1 t).1 ht).2.1) hni⟩
    rw [mem_ins, h.1 t]
    constructor
    · rintro (rfl | ⟨h1, h2, h3⟩)
      · exact ⟨by omega, hi, hm⟩
      · exact ⟨by omega, h2, h3⟩
    · rintro ⟨h1, h2, h3⟩
      by_cases ht : t = i
      · exact .inl ht
      · exact .inr ⟨by omega, h2, h3⟩
  · rw [if_neg (fun k => hm (hstep.1 k))]
    refine ⟨fun t => ?_, h.2⟩
    rw [h.1 t]
    constructor
    · rintro ⟨h1, h2, h3⟩; exact ⟨by omega, h2, h3⟩
    · rintro ⟨h1, h2, h3⟩
      have : t ≠ i := fun e => hm (e ▸ h3)
      exact ⟨by omega, h2, h3⟩
theorem RefInv.nodup {n i : Nat} {near : Nat → Nat} {acc : List Nat} (h : RefInv n near i acc) : acc.Nodup := h.2.imp (fun hab => before_ne hab)
theorem RefInv.length {n i : Nat} {near : Nat → Nat} {acc : List Nat} (hn : n ≤ 12) (h : RefInv n near i acc) : acc.length ≤ 4096 :=
  nodup_lt h.nodup (fun x hx => Nat.lt_of_lt_of_le ((h.1 x).1 hx).2.1 (p12 hn))
theorem RefInv.done {n : Nat} {near : Nat → Nat} {acc : List Nat} (hn : n ≤ 12) (h : RefInv n near (2 ^ n) acc) : acc = fortsM n near :=
  eq_of_before h.2 (forts_spec hn).2 (fun x => by
    rw [h.1 x, (forts_spec hn).1 x]
    exact ⟨fun k => k.2, fun k => ⟨k.1, k⟩⟩)
end Go.Proofs.YtpbeaaihdmfnlaaDoor.P

/- ### Pm -/
namespace Go.Proofs.YtpbeaaihdmfnlaaDoor.P
open Go Go.RowKit Go.Proofs.YtpbeaaihdmfnlaaDoor.M Go.Proofs.YtpbeaaihdmfnlaaDoor.H Go.Proofs.YtpbeaaihdmfnlaaDoor.G
open Go.Proofs.YtpbeaaihdmfnlaaDoorW.PrintWords Go.Proofs.YtpbeaaihdmfnlaaDoorW.PrintMore
theorem lt64 {s n : Nat} (hn : n ≤ 12) (hs : s < 2 ^ n) : s < 2 ^ 64 := Nat.lt_of_lt_of_le hs (Nat.pow_le_pow_right (by decide) (by omega))
/-- A fort that is dry stays dry. -/
theorem fort_dry {n F s : Nat} {near : Nat → Nat} (hn : n ≤ 12) (hr : ∀ v, near v < 2 ^ n) (hF : fortM n near F = true) (hs : s < 2 ^ n) (hd : F &&& s = 0) : F &&& cl (forcedM near) n s = 0 := by
  have g := good_forced hr
  refine (cl_ind (f := forcedM near) (p := fun t => t < 2 ^ n ∧ F &&& t = 0) (fun t ht _ => ⟨g.or_lt ht.1, ?_⟩) ⟨hs, hd⟩).2
  obtain ⟨ht, hdt⟩ := ht
  rw [and_zero] at hdt ⊢
  intro i hi
  rw [Nat.testBit_or, hdt i hi, Bool.false_or]
  cases hf : (forcedM near t).testBit i with
  | false => rfl
  | true =>
    obtain ⟨u, hu, hc, hb⟩ := (testBit_forced (lt64 hn ht)).1 hf
    have hun := bit_lt ht hu
    have huF : F.testBit u = false := by
      cases h : F.testBit u with
      | false => rfl
      | true => rw [hdt u h] at hu; cases hu
    have hsub : Sub (near u &&& F) (andNot (near u) t) := fun j hj => by
      rw [Nat.testBit_and, Bool.and_eq_true] at hj
      rw [testBit_andNot, hj.1, hdt j hj.2]; rfl
    have hne : near u &&& F ≠ 0 := bit_ne_zero (i := i) (by rw [Nat.testBit_and, (disj_andNot hb).1, hi]; rfl)
    have e := part_one (lt64 hn (andNot_lt (hr u))) hsub hc hne
    exact absurd (by rw [e]; exact hc) (((fort_iff (by omega)).1 hF).2 u hun huF)
/-- What stays dry is a fort. -/
theorem dry_fort {n c : Nat} {near : Nat → Nat} (hn : n ≤ 12) (hr : ∀ v, near v < 2 ^ n) (hc : c < 2 ^ n) (h0 : forcedM near c = 0) (hne : c ≠ full n) : fortM n near (andNot (full n) c) = true := by
  rw [fort_iff (by omega)]
  refine ⟨fun h => hne ((sub_full hc).antisymm (andNot_zero.1 h)), fun v hv hb hcard => ?_⟩
  have hvc : c.testBit v = true := by
    rw [testBit_andNot, testBit_full, decide_eq_true hv] at hb
    simpa using hb
  have e : near v &&& andNot (full n) c = andNot (near v) c := by
    apply Nat.eq_of_testBit_eq
    intro i
    rw [Nat.testBit_and, testBit_andNot, testBit_andNot]
    cases hni : (near v).testBit i with
    | false => rfl
    | true => rw [sub_full (hr v) i hni]; simp
  rw [e] at hcard
  obtain ⟨_, _, h2, _⟩ := one_low (lt64 hn (andNot_lt (hr v))) hcard
  have := (testBit_forced (near := near) (lt64 hn hc)).2 ⟨v, hvc, hcard, h2⟩
  rw [h0, Nat.zero_testBit] at this; cases this
theorem full_fort {n : Nat} {near : Nat → Nat} (h1 : 1 ≤ n) (hn : n ≤ 12) : fortM n near (full n) = true := by
  rw [fort_iff (by omega)]
  refine ⟨bit_ne_zero (i := 0) (by rw [testBit_full]; exact decide_eq_true (by omega)), fun v hv hb => ?_⟩
  rw [testBit_full, decide_eq_true hv] at hb; cases hb
theorem fort_lt {n x : Nat} {near : Nat → Nat} (h : x ∈ fortsM n near) (hn : n ≤ 12) : x < 2 ^ n := (((forts_spec hn).1 x).1 h).1
theorem min_mem {n F : Nat} {near : Nat → Nat} (hn : n ≤ 12) (hF : fortM n near F = true) (hlt : F < 2 ^ n) : ∃ x ∈ fortsM n near, Sub x F := by
  obtain ⟨y, h1, h2⟩ := min_inside (F + 1) F (by omega) hF
  exact ⟨y, ((forts_spec hn).1 y).2 ⟨lt_of_sub h1 hlt, h2⟩, h1⟩
theorem forts_ne {n : Nat} {near : Nat → Nat} (h1 : 1 ≤ n) (hn : n ≤ 12) : fortsM n near ≠ [] := by
  obtain ⟨x, hx, _⟩ := min_mem (near := near) hn (full_fort h1 hn) (full_lt n n (Nat.le_refl n))
  exact List.ne_nil_of_mem hx
/-- A set is forcing exactly if it has a place of every fort without smaller ones. -/
theorem forcing_iff {n s : Nat} {near : Nat → Nat} (hn : n ≤ 12) (hr : ∀ v, near v < 2 ^ n) (hs : s < 2 ^ n) : cl (forcedM near) n s = full n ↔ ∀ x ∈ fortsM n near, x &&& s ≠ 0 := by
  have g := good_forced hr
  constructor
  · intro h x hx h0
    have hf := ((forts_spec hn).1 x).1 hx
    have h1 := fort_dry hn hr hf.2.1 hs h0
    rw [h] at h1
    obtain ⟨i, hi⟩ := ne_zero_bit (fort_ne hf.2.1)
    have := and_zero.1 h1 i hi
    rw [sub_full hf.1 i hi] at this; cases this
  · intro h
    refine Classical.byContradiction fun hne => ?_
    have hc := cl_lt g hs
    have hf := dry_fort hn hr hc (cl_closed g hs) hne
    obtain ⟨x, hx, hsub⟩ := min_mem hn hf (andNot_lt (full_lt n n (Nat.le_refl n)))
    refine h x hx (and_zero.2 fun i hi => ?_)
    have h2 := (disj_andNot (hsub i hi)).2
    cases hsi : s.testBit i with
    | false => rfl
    | true => rw [cl_sub (f := forcedM near) (n := n) i hsi] at h2; cases h2
theorem goodB_iff {f : Nat → Nat} {n s : Nat} : goodB f n s = true ↔ cl f n s = full n := by unfold goodB cl; rw [beq_iff_eq]
end Go.Proofs.YtpbeaaihdmfnlaaDoor.P

/- ### Pl -/
namespace Go.Proofs.YtpbeaaihdmfnlaaDoor.P
open Go Go.RowKit Go.Proofs.YtpbeaaihdmfnlaaDoor.M Go.Proofs.YtpbeaaihdmfnlaaDoor.H Go.Proofs.YtpbeaaihdmfnlaaDoor.G
open Go.Proofs.YtpbeaaihdmfnlaaDoorW.PrintWords Go.Proofs.YtpbeaaihdmfnlaaDoorW.PrintMore
theorem ev_soak_l {near : Nat → Nat} {n : Nat} {r : Int} (hn : n ≤ 12) (hr : ∀ v, near v < 2 ^ n) : ∀ (fuel s c k : Nat) (ρ : Nat → Int), s < 2 ^ n → 2 ^ n ≤ fuel + s → c + fuel ≤ 10000 →
    Ev (fun m => numnahref06_Soak.l0 m (R near n) (s : Int) r (c : Int)) (((closeM (soakedM n near r) fuel s k ρ).1 : Int), ((c + countM (soakedM n near r) fuel s : Nat) : Int)) := by
  have g := good_soaked (r := r) (near := near) (show n ≤ 64 by omega)
  intro fuel
  induction fuel with
  | zero => intro s c k ρ hs hf; omega
  | succ fuel ih =>
    intro s c k ρ hs hf hk
    have hs' : s < 4096 := Nat.lt_of_lt_of_le hs (p12 hn)
    have hm' : soakedM n near r s < 4096 := Nat.lt_of_lt_of_le (g.lt s) (p12 hn)
    rw [closeM, countM]
    refine Ev.step (f := fun m => (numnahref06_soaked.f m (R near n) (s : Int) r).bind fun t518 => (if t518 = 0 then (some ((s : Int), (c : Int))) else ((numnahref06_soaked.f m (R near n) (s : Int) r).bind fun t519 => (numnahref06_Soak.l0 m (R near n) (Go.bits .or .i64 (s : Int) t519) r (wrap64 ((c : Int) + 1)))))) (fun m => by simp only [numnahref06_Soak.l0]) ?_
    refine Ev.bind (ev_soaked hn hr hs) ?_
    by_cases h0 : soakedM n near r s = 0
    · rw [if_pos h0, if_pos h0]
      exact Ev.congr (fun m => if_pos (by omega)) (Ev.now _)
    · rw [if_neg h0, if_neg h0]
      refine Ev.congr (fun m => if_neg (by omega)) ?_
      refine Ev.bind (ev_soaked hn hr hs) ?_
      have hmore := g.more h0
      have := ih (s ||| soakedM n near r s) (c + 1) (k + 1) (markR ρ (k : Int) (bitsOf (soakedM n near r s))) (g.or_lt hs) (by omega) (by omega)
      rw [show c + 1 + countM (soakedM n near r) fuel (s ||| soakedM n near r s) = c + (1 + countM (soakedM n near r) fuel (s ||| soakedM n near r s)) by omega] at this
      rw [orI hs' hm', wrap_succ (by omega)]
      exact this
/-- Soak: the closure, and the number of rounds. -/
theorem ev_soak {near : Nat → Nat} {n s : Nat} {r : Int} (hn : n ≤ 12) (hr : ∀ v, near v < 2 ^ n) (hs : s < 2 ^ n) : Ev (fun m => numnahref06_Soak.f m (R near n) (s : Int) r) ((cl (soakedM n near r) n s : Int), (countM (soakedM n near r) (2 ^ n) s : Int)) := by
  have h12 := p12 hn
  have := ev_soak_l (r := r) hn hr (2 ^ n) s 0 1 (markR (fun _ => -1) 0 (bitsOf s)) hs (by omega) (by omega)
  rw [Nat.zero_add] at this
  exact this
theorem ev_soaking {near : Nat → Nat} {n s : Nat} {r : Int} (hn : n ≤ 12) (hr : ∀ v, near v < 2 ^ n) (hs : s < 2 ^ n) : Ev (fun m => numnahref06_Soaking.f m (R near n) (s : Int) r) (goodB (soakedM n near r) n s) := by
  refine Ev.congr (f := fun m => (numnahref06_Soak.f m (R near n) (s : Int) r).bind fun bt => (numnahref06_All.f (R near n)).bind fun t => some (bt.1 == t)) (fun m => rfl) ?_
  refine Ev.bind (ev_soak hn hr hs) ?_
  rw [all_ref hn]
  have e : ((cl (soakedM n near r) n s : Int) == ((full n : Nat) : Int)) = goodB (soakedM n near r) n s := by
    unfold goodB
    rw [Bool.eq_iff_iff]
    simp only [beq_iff_eq]
    show (((closeR (soakedM n near r) n s).1 : Nat) : Int) = _ ↔ _
    omega
  simp only [Option.bind_some, e]
  exact Ev.now _
theorem ev_fewest_l {near : Nat → Nat} {n : Nat} {r : Int} (hn : n ≤ 12) (hr : ∀ v, near v < 2 ^ n) : ∀ (d i best : Nat), i + d = 2 ^ n → best < 2 ^ n →
    Ev (fun k => numnahref06_Fewest.l0 k (R near n) r (best : Int) (i : Int)) ((bestL (goodB (soakedM n near r) n) best (List.range' i d) : Nat) : Int) := by
  have h12 := p12 hn
  intro d
  induction d with
  | zero =>
    intro i best hi _
    refine Ev.step (f := fun _ => some (best : Int)) (fun k => ?_) (Ev.now _)
    simp only [numnahref06_Fewest.l0]
    rw [shl_pow hn, if_neg (by omega)]
  | succ d ih =>
    intro i best hi hb
    have e : bestL (goodB (soakedM n near r) n) best (List.range' i (d + 1)) = bestL (goodB (soakedM n near r) n) (if beforeB i best = true ∧ goodB (soakedM n near r) n i = true then i else best) (List.range' (i + 1) d) := by rw [List.range'_succ]; rfl
    rw [e]
    refine Ev.step (f := fun k => (numnahref06_Before.f k (i : Int) (best : Int)).bind fun t191 => (if t191 = true then ((numnahref06_Soaking.f k (R near n) (i : Int) r).bind fun t192 => (if t192 = true then (numnahref06_Fewest.l0 k (R near n) r (i : Int) ((i + 1 : Nat) : Int)) else (numnahref06_Fewest.l0 k (R near n) r (best : Int) ((i + 1 : Nat) : Int)))) else (numnahref06_Fewest.l0 k (R near n) r (best : Int) ((i + 1 : Nat) : Int)))) (fun k => ?_) ?_
    · simp only [numnahref06_Fewest.l0]
      rw [shl_pow hn, if_pos (by omega), wrap_succ (by omega)]
    · refine Ev.bind (ev_before (by omega) (by omega)) ?_
      cases hbf : beforeB i best with
      | false =>
        rw [if_neg (by simp)]
        exact Ev.congr (fun k => if_neg (by simp)) (ih (i + 1) best (by omega) hb)
      | true =>
        refine Ev.congr (fun k => if_pos rfl) ?_
        refine Ev.bind (ev_soaking hn hr (by omega)) ?_
        cases hg : goodB (soakedM n near r) n i with
        | false =>
          rw [if_neg (by simp)]
          exact Ev.congr (fun k => if_neg (by simp)) (ih (i + 1) best (by omega) hb)
        | true =>
          rw [if_pos ⟨rfl, rfl⟩]
          exact Ev.congr (fun k => if_pos rfl) (ih (i + 1) i (by omega) (by omega))
theorem ev_fewest {near : Nat → Nat} {n : Nat} {r : Int} (hn : n ≤ 12) (hr : ∀ v, near v < 2 ^ n) : Ev (fun k => numnahref06_Fewest.f k (R near n) r) ((firstM (soakedM n near r) n : Nat) : Int) := by
  have g := good_soaked (r := r) (near := near) (show n ≤ 64 by omega)
  have e : bestL (goodB (soakedM n near r) n) (full n) (List.range (2 ^ n)) = firstM (soakedM n near r) n := (best_first hn (full_good g)).unique (first_first hn g)
  rw [← e, List.range_eq_range']
  refine Ev.congr (f := fun k => numnahref06_Fewest.l0 k (R near n) r ((full n : Nat) : Int) ((0 : Nat) : Int)) (fun k => ?_) (ev_fewest_l hn hr (2 ^ n) 0 (full n) (by omega) (full_lt n n (Nat.le_refl n)))
  unfold numnahref06_Fewest.f
  rw [all_ref hn]
  rfl
end Go.Proofs.YtpbeaaihdmfnlaaDoor.P

/- ### Pn -/
namespace Go.Proofs.YtpbeaaihdmfnlaaDoor.P
open Go Go.RowKit Go.Proofs.YtpbeaaihdmfnlaaDoor.M Go.Proofs.YtpbeaaihdmfnlaaDoor.H Go.Proofs.YtpbeaaihdmfnlaaDoor.G
open Go.Proofs.YtpbeaaihdmfnlaaDoorW.PrintWords Go.Proofs.YtpbeaaihdmfnlaaDoorW.PrintMore
structure Tamed (n : Nat) (l : List S48) : Prop where
  g : GOk n l (nearOf l)
  gr : graphM (n : Int) l = some ⟨n, nearOf l⟩
  len : l.length ≤ 66
theorem Tamed.fit {n : Nat} {l : List S48} (h : Tamed n l) : fitL l := fit_small (by have := h.len; omega)
theorem Tamed.inI {n : Nat} {l : List S48} (h : Tamed n l) : inI (n : Int) := ⟨by omega, by have := h.g.le; omega⟩
theorem tamed_of {n : Nat} {l : List S48} (h1 : 1 ≤ n) (h2 : n ≤ 12) (h : edgesB (n : Int) [] l = true) : Tamed n l := by
  obtain ⟨hgr, hg⟩ := graph_some h1 h2 h
  have hl := edgesB_length h2 h
  have : ∀ n, n ≤ 12 → n * (n - 1) / 2 ≤ 66 := by decide
  have := this n h2
  exact ⟨hg, hgr, by omega⟩
theorem tame_ex (a0 : Int) {l : List S48} (hl : fitL l) : ∃ (n : Nat) (out : List S48), Tamed n out ∧ Ev (fun k => numnahlaw06_tame.f k a0 l) ((n : Int), out) := by
  obtain ⟨n, out, h1, h2, h3, hv⟩ := ev_tame a0 (l := l) (by unfold fitL at hl; omega)
  exact ⟨n, out, tamed_of h1 h2 h3, hv⟩
section
variable {n s : Nat} {l : List S48} (h : Tamed n l) (hs : s < 2 ^ n)
include h
theorem Tamed.small {t : Nat} (ht : t < 2 ^ n) : t < 4096 := Nat.lt_of_lt_of_le ht (p12 h.g.le)
theorem Tamed.fitS {t : Nat} (ht : t < 2 ^ n) : fitL (natsI (bitsOf t)) := fit_small (by rw [natsI_length]; have := card_lt64 (h.small ht); show card _ ≤ _; omega)
theorem Tamed.within {t : Nat} (ht : t < 2 ^ n) : Ev (fun k => numnahlaw06_within.f k (n : Int) (natsI (bitsOf t))) true := by
  have hw := ev_within (n := n) (l := natsI (bitsOf t)) (by rw [natsI_length]; have := card_lt64 (h.small ht); show card _ < _; omega)
  rw [setM_bits (by have := h.g.le; omega) ht] at hw
  exact hw
theorem Tamed.set {t : Nat} (ht : t < 2 ^ n) : Ev (fun k => numnahref06_Set.f k (natsI (bitsOf t))) (t : Int) := ev_set (h.small ht)
theorem Tamed.near : numnahref06_Near.f (n : Int) l = some (R (nearOf l) n) := near_ref h.g h.fit
include hs
theorem Tamed.both : bothM (n : Int) l (natsI (bitsOf s)) = some (⟨n, nearOf l⟩, s) := by
  unfold bothM; rw [h.gr, Option.bind_some]; show (setM n _).map _ = _; rw [setM_bits (by have := h.g.le; omega) hs]; rfl
theorem Tamed.close : wetting_Close.f (n : Int) l (natsI (bitsOf s)) = some (natsI (bitsOf (cl (forcedM (nearOf l)) n s)), max 0 (maxL (L n (closeR (forcedM (nearOf l)) n s).2)), 0) := by
  unfold wetting_Close.f; rw [if_pos ⟨h.inI, h.fit, h.fitS hs⟩]; unfold closeX; rw [h.both hs]; rfl
theorem Tamed.rounds : wetting_Rounds.f (n : Int) l (natsI (bitsOf s)) = some (L n (closeR (forcedM (nearOf l)) n s).2, 0) := by
  unfold wetting_Rounds.f; rw [if_pos ⟨h.inI, h.fit, h.fitS hs⟩]; unfold roundsX; rw [h.both hs]; rfl
theorem Tamed.isFort : wetting_IsFort.f (n : Int) l (natsI (bitsOf s)) = some (fortM n (nearOf l) s, 0) := by
  unfold wetting_IsFort.f; rw [if_pos ⟨h.inI, h.fit, h.fitS hs⟩]; unfold isFortX; rw [h.both hs]
theorem Tamed.fort : wetting_Fort.f (n : Int) l (natsI (bitsOf s)) = some (natsI (if cl (forcedM (nearOf l)) n s = full n then [] else bitsOf (andNot (full n) (cl (forcedM (nearOf l)) n s))), if cl (forcedM (nearOf l)) n s = full n then 6 else 0) := by
  unfold wetting_Fort.f; rw [if_pos ⟨h.inI, h.fit, h.fitS hs⟩]; unfold fortX; rw [h.both hs]; rfl
theorem Tamed.soak {r : Int} (hr : 1 ≤ r ∧ r ≤ 6) : wetting_Soak.f (n : Int) l (natsI (bitsOf s)) r = some (natsI (bitsOf (cl (soakedM n (nearOf l) r) n s)), max 0 (maxL (L n (closeR (soakedM n (nearOf l) r) n s).2)), 0) := by
  unfold wetting_Soak.f; rw [if_pos ⟨h.inI, h.fit, h.fitS hs⟩]; unfold soakX; rw [h.both hs]; exact congrArg some (if_pos hr)
theorem Tamed.shelter {r : Int} (hr : 1 ≤ r ∧ r ≤ 6) : wetting_Shelter.f (n : Int) l (natsI (bitsOf s)) r = some (natsI (if cl (soakedM n (nearOf l) r) n s = full n then [] else bitsOf (andNot (full n) (cl (soakedM n (nearOf l) r) n s))), if cl (soakedM n (nearOf l) r) n s = full n then 6 else 0) := by
  unfold wetting_Shelter.f; rw [if_pos ⟨h.inI, h.fit, h.fitS hs⟩]; unfold shelterX; rw [h.both hs]; exact congrArg some (if_pos hr)
omit hs
theorem Tamed.least : wetting_Least.f (n : Int) l = some (natsI (bitsOf (firstM (forcedM (nearOf l)) n)), 0) := by
  unfold wetting_Least.f; rw [if_pos ⟨h.inI, h.fit⟩]; unfold leastX; rw [h.gr]
theorem Tamed.fewest {r : Int} (hr : 1 ≤ r ∧ r ≤ 6) : wetting_Fewest.f (n : Int) l r = some (natsI (bitsOf (firstM (soakedM n (nearOf l) r) n)), 0) := by
  unfold wetting_Fewest.f; rw [if_pos ⟨h.inI, h.fit⟩]; unfold fewestX; rw [h.gr]; exact congrArg some (if_pos hr)
theorem Tamed.forts : wetting_Forts.f (n : Int) l = some ((fortsM n (nearOf l)).map (fun x => natsI (bitsOf x)), 0) := by
  unfold wetting_Forts.f; rw [if_pos ⟨h.inI, h.fit⟩]; unfold fortsX; rw [h.gr]
end
end Go.Proofs.YtpbeaaihdmfnlaaDoor.P

/- ### Gs -/
namespace Go.Proofs.YtpbeaaihdmfnlaaDoor.G
open Go.RowKit Go.Proofs.YtpbeaaihdmfnlaaDoor.H Go.Proofs.YtpbeaaihdmfnlaaDoorW.PrintWords Go.Proofs.YtpbeaaihdmfnlaaDoorW.PrintLast Go.Proofs.YtpbeaaihdmfnlaaDoorW.PrintMore
attribute [local go_sem] max2_int min2_int max_two min_two max_three min_three max_four min_four   -- for this text's walks alone
set_option linter.unusedVariables false
set_option linter.unusedSimpArgs false
def numnahref06_Shelter.l0 : Nat → List Int → Int → Int → Int → Option (Bool)
  | 0, _, _, _, _ => none
  | k + 1, x0, x1, x2, x7 => if x7 < (x0.length : Int) then (if 0 ≤ x7 then (if (Int.tmod (shr .i64 x1 x7) 2) = 1 then ((numnahref06_Count.f k (Go.bits .andNot .i64 (rd x0 x7) x1)).bind fun t713 => (if t713 ≥ x2 then (some false) else (numnahref06_Shelter.l0 k x0 x1 x2 (wrap64 (x7 + 1))))) else (numnahref06_Shelter.l0 k x0 x1 x2 (wrap64 (x7 + 1)))) else (none)) else (some (decide (x1 > 0)))
def numnahref06_Shelter.f (k : Nat) (l0 : List Int) (a1 : Int) (a2 : Int) : Option (Bool) := numnahref06_Shelter.l0 k l0 a1 a2 0
theorem numnahref06_Shelter.mono_l : ∀ k, (∀ y0 y1 y2 y3, LeO (numnahref06_Shelter.l0 k y0 y1 y2 y3) (numnahref06_Shelter.l0 (k + 1) y0 y1 y2 y3))
  | 0 => fun _ _ _ _ r h => by simp [numnahref06_Shelter.l0] at h
  | k + 1 => by
    have ih0 := numnahref06_Shelter.mono_l k
    · intro y0 y1 y2 y3
      unfold numnahref06_Shelter.l0
      repeat' first
      | (with_reducible exact ih0 _ _ _ _)
      | (with_reducible exact numnahref06_Count.mono _ _)
      | (with_reducible exact LeO.refl _)
      | (with_reducible exact LeO.none _)
      | (with_reducible refine LeO.ite ?_ ?_)
      | (with_reducible refine LeO.bind ?_ (fun _ => ?_))
      | exact ih0 _ _ _ _
      | exact numnahref06_Count.mono _ _
      | exact LeO.none _
      | refine LeO.ite ?_ ?_
      | refine LeO.bind ?_ (fun _ => ?_)
theorem numnahref06_Shelter.mono : ∀ a0 a1 a2 k, LeO (numnahref06_Shelter.f k a0 a1 a2) (numnahref06_Shelter.f (k + 1) a0 a1 a2) := by
  intro a0 a1 a2 k
  have ih0 := numnahref06_Shelter.mono_l k
  unfold numnahref06_Shelter.f
  repeat' first
      | (with_reducible exact ih0 _ _ _ _)
      | (with_reducible exact numnahref06_Count.mono _ _)
      | (with_reducible exact LeO.refl _)
      | (with_reducible exact LeO.none _)
      | (with_reducible refine LeO.ite ?_ ?_)
      | (with_reducible refine LeO.bind ?_ (fun _ => ?_))
      | exact ih0 _ _ _ _
      | exact numnahref06_Count.mono _ _
      | exact LeO.none _
      | refine LeO.ite ?_ ?_
      | refine LeO.bind ?_ (fun _ => ?_)
set_option maxHeartbeats 8000000 in
set_option maxRecDepth 100000 in
theorem numnahref06_Shelter.calls (k : Nat) (A0 : Option Addr) (c0 : Nat) (l0 : List Int) (a1 : Int) (a2 : Int) (r : Bool) (w : World) (hr0 : Kd.C (Kd.int .i64) w A0 l0.length l0) (hc0 : l0.length ≤ c0) (h : numnahref06_Shelter.f k l0 a1 a2 = some r) :
    Calls Tryd.prog 51 #[.slice A0 l0.length c0, .int .i64 a1, .int .i64 a2] w fun e w' => e = .returned (.bool r) ∧ Below w.heap.size w w' := by
  have HR0 := Aside0.mk hr0
  have HC0 := Aside0.mk hc0
  clear hr0 hc0
  have HB := Aside0.mk (Below.refl w.heap.size w)
  have H : (numnahref06_Shelter.l0 k l0 a1 a2 0) = some r := h
  clear h
  have H' := Aside0.mk H
  clear H
  go_enter Tryd.func51, Tryd.ntmps51
  go_wp2
  go_loopg [7] k (fun kq v7 w' => ∃ (x7_1 : Int), v7 = .int .i64 x7_1 ∧ Aside0 (numnahref06_Shelter.l0 kq l0 a1 a2 x7_1 = some r) ∧ Aside0 (kq ≤ k) ∧ Aside0 (Below w.heap.size w w'))
  case atStart => exact ⟨(0), (by first | rfl | (simp; done) | (simp [*]; done)), H', ⟨Nat.le_refl _⟩, ⟨by repeat (first | (with_reducible first | exact HB.out | apply below_alloc | apply pw_below_drewN | apply below_drew1) | exact HB.out)⟩⟩
  case round =>
    clear H'
    try clear p2
    obtain ⟨x7_1, rfl, HA, HK1, HB⟩ := hrel
    cases gk with
    | zero => exact absurd HA.out (by simp [numnahref06_Shelter.l0])
    | succ k1 =>
      have H := HA.out
      clear HA
      simp only [numnahref06_Shelter.l0] at H
      by_cases c4 : x7_1 < (l0.length : Int)
      · rw [if_pos c4] at H
        have c4b0 : decide (x7_1 < (l0.length : Int)) = true := decide_eq_true c4
        clear c4
        by_cases c5 : 0 ≤ x7_1
        · rw [if_pos c5] at H
          have c5b0 := eq_true c5
          have c5b1 : decide (0 ≤ x7_1) = true := decide_eq_true c5
          clear c5
          obtain ⟨ji6, hji6⟩ : ∃ j_ : Int, (shr .i64 a1 x7_1) = j_ := ⟨_, rfl⟩
          replace H : (if (Int.tmod (ji6) 2) = 1 then ((numnahref06_Count.f k1 (Go.bits .andNot .i64 (rd l0 x7_1) a1)).bind fun t713 => (if t713 ≥ a2 then (some false) else (numnahref06_Shelter.l0 k1 l0 a1 a2 (wrap64 (x7_1 + 1))))) else (numnahref06_Shelter.l0 k1 l0 a1 a2 (wrap64 (x7_1 + 1)))) = some r := by first | (rw [hji6] at H; exact H) | (simp only [hji6] at H ⊢; exact H)
          have hji6_ : (a1 / 2 ^ min x7_1.toNat 64) = ji6 := hji6
          have hji6z : x7_1 ≤ 64 → (a1 / 2 ^ x7_1.toNat) = ji6 := shr_small hji6
          by_cases c7 : (Int.tmod (ji6) 2) = 1
          · rw [if_pos c7] at H
            have c7b0 : ((Int.tmod (ji6) 2) == 1) = true := beq_iff_eq.mpr c7
            have c7b1 : ((Int.tmod (ji6) 2) != 1) = false := bne_eq_false_iff_eq.mpr c7
            clear c7
            replace H := Option.bind_eq_some_iff.mp H
            obtain ⟨t713, A80, H⟩ := H
            replace H : (if t713 ≥ a2 then (some false) else (numnahref06_Shelter.l0 k1 l0 a1 a2 (wrap64 (x7_1 + 1)))) = some r := H
            have A8 := Aside0.mk A80
            clear A80
            by_cases c9 : t713 ≥ a2
            · rw [if_pos c9] at H
              have c9b0 : decide (a2 ≤ t713) = true := decide_eq_true c9
              clear c9
              obtain rfl := Option.some.inj H
              have p712 : 0 ≤ (x7_1 : Int) := of_decide_eq_true (by first | (with_reducible assumption) | assumption)
              have q712 : x7_1 < (l0.length : Int) := of_decide_eq_true (by first | (with_reducible assumption) | assumption)
              obtain ⟨ad712, e712, hx712_0⟩ := Kd.at_int HR0.out x7_1 p712 q712
              cases e712
              replace hx712_0 := (HB.out.cell (World.block_lt_of_cell? w _ hx712_0)).trans hx712_0
              replace p712 := eq_true p712
              replace q712 := eq_true q712
              go_wp2_with (first | (go_at_call 41; (with_reducible refine (numnahref06_Count.calls k1 (Go.bits .andNot .i64 (rd l0 x7_1) a1) t713 _ A8.out).mono ?_); rintro e w10 ⟨rfl, hb⟩; have n0_ := Aside0.mk (below_step (by repeat (first | (with_reducible first | exact HB.out | apply below_alloc | apply pw_below_drewN | apply below_drew1) | exact HB.out)) hb); clear HB; have HB := n0_; clear n0_; (try clear hb); (try clear hb2); (try clear hk); (try clear hi)))
              go_ret
              exact ⟨by first | rfl | (simp [errW_none, errW_some] <;> rfl) | (simp only [← hji6]; first | rfl | (simp [errW_none, errW_some] <;> rfl)) | (simp [*, errW_none, errW_some] <;> rfl), by repeat (first | (with_reducible first | exact HB.out | apply below_alloc | apply pw_below_drewN | apply below_drew1) | exact HB.out)⟩
            · rw [if_neg c9] at H
              have c9b0 : decide (a2 ≤ t713) = false := decide_eq_false c9
              clear c9
              have H' := Aside0.mk H
              clear H
              have p712 : 0 ≤ (x7_1 : Int) := of_decide_eq_true (by first | (with_reducible assumption) | assumption)
              have q712 : x7_1 < (l0.length : Int) := of_decide_eq_true (by first | (with_reducible assumption) | assumption)
              obtain ⟨ad712, e712, hx712_0⟩ := Kd.at_int HR0.out x7_1 p712 q712
              cases e712
              replace hx712_0 := (HB.out.cell (World.block_lt_of_cell? w _ hx712_0)).trans hx712_0
              replace p712 := eq_true p712
              replace q712 := eq_true q712
              go_wp2_with (first | (go_at_call 41; (with_reducible refine (numnahref06_Count.calls k1 (Go.bits .andNot .i64 (rd l0 x7_1) a1) t713 _ A8.out).mono ?_); rintro e w11 ⟨rfl, hb⟩; have n0_ := Aside0.mk (below_step (by repeat (first | (with_reducible first | exact HB.out | apply below_alloc | apply pw_below_drewN | apply below_drew1) | exact HB.out)) hb); clear HB; have HB := n0_; clear n0_; (try clear hb); (try clear hb2); (try clear hk); (try clear hi)))
              go_roundg k1
              case measure => have := HK1.out; omega
              case rel => exact ⟨(wrap64 (x7_1 + 1)), (by first | rfl | (simp; done) | (simp [*]; done)), H', ⟨by have := HK1.out; omega⟩, ⟨by repeat (first | (with_reducible first | exact HB.out | apply below_alloc | apply pw_below_drewN | apply below_drew1) | exact HB.out)⟩⟩
          · rw [if_neg c7] at H
            have c7b0 : ((Int.tmod (ji6) 2) == 1) = false := beq_eq_false_iff_ne.mpr c7
            have c7b1 : ((Int.tmod (ji6) 2) != 1) = true := bne_iff_ne.mpr c7
            have H' := Aside0.mk H
            clear H
            go_wp2
            go_roundg k1
            case measure => have := HK1.out; omega
            case rel => exact ⟨(wrap64 (x7_1 + 1)), (by first | rfl | (simp; done) | (simp [*]; done)), H', ⟨by have := HK1.out; omega⟩, ⟨by repeat (first | (with_reducible first | exact HB.out | apply below_alloc | apply pw_below_drewN | apply below_drew1) | exact HB.out)⟩⟩
        · rw [if_neg c5] at H
          exact absurd H (by simp)
      · rw [if_neg c4] at H
        have c4b0 : decide (x7_1 < (l0.length : Int)) = false := decide_eq_false c4
        clear c4
        obtain rfl := Option.some.inj H
        go_wp2
        go_ret
        exact ⟨by first | rfl | (simp [errW_none, errW_some] <;> rfl) | (simp [*, errW_none, errW_some] <;> rfl), by repeat (first | (with_reducible first | exact HB.out | apply below_alloc | apply pw_below_drewN | apply below_drew1) | exact HB.out)⟩
end Go.Proofs.YtpbeaaihdmfnlaaDoor.G

/- ### Po -/
namespace Go.Proofs.YtpbeaaihdmfnlaaDoor.P
open Go Go.RowKit Go.Proofs.YtpbeaaihdmfnlaaDoor.M Go.Proofs.YtpbeaaihdmfnlaaDoor.H Go.Proofs.YtpbeaaihdmfnlaaDoor.G
open Go.Proofs.YtpbeaaihdmfnlaaDoorW.PrintWords Go.Proofs.YtpbeaaihdmfnlaaDoorW.PrintMore
theorem and_mono {a b c : Nat} (h : Sub b c) : Sub (a &&& b) (a &&& c) := fun i hi => by
  rw [Nat.testBit_and, Bool.and_eq_true] at hi ⊢
  exact ⟨hi.1, h i hi.2⟩
/-- What a part of a closed set makes wet, lies in it. -/
theorem soaked_closed {n : Nat} {near : Nat → Nat} {r q : Int} {t c : Nat} (hn : n ≤ 64) (hq : r ≤ q) (h0 : soakedM n near r c = 0) (h : Sub t c) : Sub (soakedM n near q t) c := by
  intro i hi
  obtain ⟨h1, h2, h3⟩ := (testBit_soaked hn).1 hi
  cases hc : c.testBit i with
  | true => rfl
  | false =>
    have hm := card_mono (and_mono (a := near i) h)
    have : (soakedM n near r c).testBit i = true := (testBit_soaked hn).2 ⟨h1, hc, by omega⟩
    rw [h0, Nat.zero_testBit] at this; cases this
theorem soak_mono {n s t : Nat} {near : Nat → Nat} {r q : Int} (hn : n ≤ 64) (hq : r ≤ q) (ht : t < 2 ^ n) (h : Sub s t) : Sub (cl (soakedM n near q) n s) (cl (soakedM n near r) n t) :=
  cl_least (fun _ hu => soaked_closed hn hq (cl_closed (good_soaked hn) ht) hu) (h.trans cl_sub)
/-- The same of forcing. -/
theorem forced_closed {n : Nat} {near : Nat → Nat} {t c : Nat} (hn : n ≤ 12) (hr : ∀ v, near v < 2 ^ n) (ht : t < 2 ^ n) (hc : c < 2 ^ n) (h0 : forcedM near c = 0) (h : Sub t c) : Sub (forcedM near t) c := by
  intro i hi
  obtain ⟨v, h1, h2, h3⟩ := (testBit_forced (lt64 hn ht)).1 hi
  cases hci : c.testBit i with
  | true => rfl
  | false =>
    have hsub : Sub (andNot (near v) c) (andNot (near v) t) := fun j hj => by
      have := disj_andNot hj
      rw [testBit_andNot, this.1]
      cases htj : t.testBit j with
      | false => rfl
      | true => rw [h j htj] at this; cases this.2
    have hbit : (andNot (near v) c).testBit i = true := by rw [testBit_andNot, (disj_andNot h3).1, hci]; rfl
    have e := part_one (lt64 hn (andNot_lt (hr v))) hsub h2 (bit_ne_zero hbit)
    have : (forcedM near c).testBit i = true := (testBit_forced (lt64 hn hc)).2 ⟨v, h v h1, by rw [e]; exact h2, hbit⟩
    rw [h0, Nat.zero_testBit] at this; cases this
theorem close_mono {n s t : Nat} {near : Nat → Nat} (hn : n ≤ 12) (hr : ∀ v, near v < 2 ^ n) (hs : s < 2 ^ n) (ht : t < 2 ^ n) (h : Sub s t) : Sub (cl (forcedM near) n s) (cl (forcedM near) n t) := by
  have g := good_forced hr
  have hc := cl_lt g ht
  refine (cl_ind (f := forcedM near) (n := n) (p := fun u => u < 2 ^ n ∧ Sub u (cl (forcedM near) n t)) (fun u hu _ => ⟨g.or_lt hu.1, or_sub hu.2 (forced_closed hn hr hu.1 hc (cl_closed g ht) hu.2)⟩) ⟨hs, h.trans cl_sub⟩).2
/-- Shelter. -/
theorem ev_shelter_l {near : Nat → Nat} {n s : Nat} {r : Int} (hn : n ≤ 12) (hr : ∀ v, near v < 2 ^ n) (_ : s < 2 ^ n) : ∀ (d i : Nat), i + d = n →
    Ev (fun k => numnahref06_Shelter.l0 k (R near n) (s : Int) r (i : Int)) (((List.range' i d).all fun v => !s.testBit v || decide ((card (andNot (near v) s) : Int) < r)) && decide (0 < s)) := by
  intro d
  induction d with
  | zero =>
    intro i hi
    refine Ev.step (f := fun _ => some (decide (0 < s))) (fun k => ?_) (Ev.now _)
    simp only [numnahref06_Shelter.l0]
    rw [R_length, if_neg (by omega)]
    congr 1
    rw [Bool.eq_iff_iff, decide_eq_true_iff, decide_eq_true_iff]; omega
  | succ d ih =>
    intro i hi
    have hlt : i < n := by omega
    have hni : near i < 4096 := Nat.lt_of_lt_of_le (hr i) (p12 hn)
    have ha : andNot (near i) s < 4096 := andNot_lt (k := 12) hni
    rw [List.range'_succ, List.all_cons]
    cases hb : s.testBit i with
    | false =>
      rw [Bool.not_false, Bool.true_or, Bool.true_and]
      refine Ev.step (fun k => ?_) (ih (i + 1) (by omega))
      simp only [numnahref06_Shelter.l0]
      rw [R_length, if_pos (by omega), if_pos (by omega), tmod_bit (by omega), hb, if_neg (by simp), wrap_succ (by omega)]
    | true =>
      rw [Bool.not_true, Bool.false_or]
      refine Ev.step (f := fun k => (numnahref06_Count.f k ((andNot (near i) s : Nat) : Int)).bind fun t713 => (if t713 ≥ r then (some false) else (numnahref06_Shelter.l0 k (R near n) (s : Int) r ((i + 1 : Nat) : Int)))) (fun k => ?_) ?_
      · simp only [numnahref06_Shelter.l0]
        rw [R_length, if_pos (by omega), if_pos (by omega), tmod_bit (by omega), hb, if_pos (by simp), wrap_succ (by omega), rd_R hlt, andN hni]
      · refine Ev.bind (ev_count ha) ?_
        by_cases hc : (card (andNot (near i) s) : Int) < r
        · rw [decide_eq_true hc, Bool.true_and]
          exact Ev.congr (fun k => if_neg (by omega)) (ih (i + 1) (by omega))
        · rw [decide_eq_false hc, Bool.false_and, Bool.false_and]
          exact Ev.congr (fun k => if_pos (by omega)) (Ev.now _)
theorem ev_shelter {near : Nat → Nat} {n s : Nat} {r : Int} (hn : n ≤ 12) (hr : ∀ v, near v < 2 ^ n) (hs : s < 2 ^ n) (h0 : s ≠ 0) (h : ∀ v, v < n → s.testBit v = true → (card (andNot (near v) s) : Int) < r) : Ev (fun k => numnahref06_Shelter.f k (R near n) (s : Int) r) true := by
  have hev := ev_shelter_l (r := r) hn hr hs n 0 (by omega)
  have e : (((List.range' 0 n).all fun v => !s.testBit v || decide ((card (andNot (near v) s) : Int) < r)) && decide (0 < s)) = true := by
    rw [Bool.and_eq_true, decide_eq_true_iff, List.all_eq_true]
    refine ⟨fun v hv => ?_, by omega⟩
    rw [List.mem_range'] at hv
    obtain ⟨j, hj, rfl⟩ := hv
    cases hb : s.testBit (0 + 1 * j) with
    | false => rfl
    | true => rw [Bool.not_true, Bool.false_or, decide_eq_true_iff]; exact h _ (by omega) hb
  rw [e] at hev
  exact hev
end Go.Proofs.YtpbeaaihdmfnlaaDoor.P
