/- Several texts, joined. -/
import Derived.Test.YtpbeaaihdmfnlaaDoorQChronicles5

/- ### Pp -/
namespace Go.Proofs.YtpbeaaihdmfnlaaDoor.P
open Go Go.RowKit Go.Proofs.YtpbeaaihdmfnlaaDoor.M Go.Proofs.YtpbeaaihdmfnlaaDoor.H Go.Proofs.YtpbeaaihdmfnlaaDoor.G
open Go.Proofs.YtpbeaaihdmfnlaaDoorW.PrintWords Go.Proofs.YtpbeaaihdmfnlaaDoorW.PrintMore
theorem one_force {near : Nat → Nat} {n s v : Nat} (hn : n ≤ 12) (hr : ∀ v, near v < 2 ^ n) (h : nextM near s = some v) :
    s.testBit v = true ∧ andNot (near v) s = 2 ^ low (andNot (near v) s) ∧ s.testBit (low (andNot (near v) s)) = false ∧ low (andNot (near v) s) < n := by
  obtain ⟨h1, h2, h3, h4⟩ := next_facts hn hr h
  refine ⟨(mem_bitsOf.1 h1).2, ?_, h3, h4⟩
  exact (one_low (Nat.lt_of_lt_of_le (andNot_lt (hr v)) (Nat.pow_le_pow_right (by decide) (by omega))) h2).1
theorem next_none {near : Nat → Nat} {s : Nat} (hs : s < 2 ^ 64) (h : nextM near s = none) : forcedM near s = 0 := by
  apply Classical.byContradiction
  intro hne
  obtain ⟨i, hi⟩ := ne_zero_bit hne
  obtain ⟨v, h1, h2, _⟩ := (testBit_forced hs).1 hi
  have h3 := List.find?_eq_none.1 h v (mem_bitsOf.2 ⟨bit_lt hs h1, h1⟩)
  apply h3
  unfold canForce
  rw [h2]; rfl
theorem chron_done {near : Nat → Nat} {n : Nat} (hn : n ≤ 12) (hr : ∀ v, near v < 2 ^ n) : ∀ (k s : Nat), s < 2 ^ n → 2 ^ n ≤ k + s →
    nextM near (chronL near k s).2 = none ∧ (chronL near k s).2 < 2 ^ n ∧ Sub s (chronL near k s).2 ∧ ∀ c, c < 2 ^ n → forcedM near c = 0 → Sub s c → Sub (chronL near k s).2 c := by
  intro k
  induction k with
  | zero => intro s hs h; omega
  | succ k ih =>
    intro s hs h
    rw [chronL]
    cases hx : nextM near s with
    | none => exact ⟨hx, hs, Sub.refl s, fun c _ _ h => h⟩
    | some v =>
      obtain ⟨h1, h2, h3, h4⟩ := one_force hn hr hx
      obtain ⟨i1, i2, i3, i4⟩ := ih (s ||| 2 ^ low (andNot (near v) s)) (Nat.or_lt_two_pow hs (Nat.pow_lt_pow_right (by decide) h4)) (by have := or_gt h3; omega)
      refine ⟨i1, i2, (sub_or_left _ _).trans i3, fun c hc h0 hsc => i4 c hc h0 (or_sub hsc ?_)⟩
      have hf := forced_closed hn hr hs hc h0 hsc
      rw [sub_pow]
      refine hf _ ((testBit_forced (lt64 hn hs)).2 ⟨v, h1, (next_facts hn hr hx).2.1, ?_⟩)
      rw [h2, testBit_pow]
      exact decide_eq_true (by rw [← h2])
theorem chron_cl {near : Nat → Nat} {n s : Nat} (hn : n ≤ 12) (hr : ∀ v, near v < 2 ^ n) (hs : s < 2 ^ n) : (chronL near (2 ^ n - s) s).2 = cl (forcedM near) n s := by
  have g := good_forced hr
  obtain ⟨h1, h2, h3, h4⟩ := chron_done hn hr (2 ^ n - s) s hs (by omega)
  have hc := cl_lt g hs
  refine (h4 _ hc (cl_closed g hs) cl_sub).antisymm (cl_least (fun t ht => ?_) h3)
  exact forced_closed hn hr (lt_of_sub ht h2) h2 (next_none (lt64 hn h2) h1) ht
theorem chron_check {near : Nat → Nat} {n : Nat} (hn : n ≤ 12) (hr : ∀ v, near v < 2 ^ n) : ∀ (k s : Nat), s < 2 ^ n →
    checkL n near s ((chronL near k s).1.map toS) = true ∧ wetL s ((chronL near k s).1.map toS) = (chronL near k s).2 := by
  intro k
  induction k with
  | zero => intro s _; exact ⟨rfl, rfl⟩
  | succ k ih =>
    intro s hs
    rw [chronL]
    cases hx : nextM near s with
    | none => exact ⟨rfl, rfl⟩
    | some v =>
      obtain ⟨h1, h2, h3, h4⟩ := one_force hn hr hx
      obtain ⟨i1, i2⟩ := ih (s ||| 2 ^ low (andNot (near v) s)) (Nat.or_lt_two_pow hs (Nat.pow_lt_pow_right (by decide) h4))
      have hv : v < n := bit_lt hs h1
      dsimp only
      generalize low (andNot (near v) s) = u at h2 h3 h4 i1 i2 ⊢
      simp only [List.map_cons]
      rw [checkL]
      have e1 : (toS (v, u)).f1.toNat = u := by show ((u : Nat) : Int).toNat = u; omega
      have e0 : (toS (v, u)).f0.toNat = v := by show ((v : Nat) : Int).toNat = v; omega
      have hok : forceOk n near s (toS (v, u)) := by
        unfold forceOk
        rw [e0, e1]
        refine ⟨?_, ?_, ?_, ?_, h1, h2⟩
        · show (0 : Int) ≤ ((v : Nat) : Int); omega
        · show ((v : Nat) : Int) ≤ n - 1; omega
        · show (0 : Int) ≤ ((u : Nat) : Int); omega
        · show ((u : Nat) : Int) ≤ n - 1; omega
      rw [if_pos hok, e1]
      refine ⟨i1, ?_⟩
      unfold wetL at i2 ⊢
      rw [List.foldl_cons, e1]
      exact i2
/-- A chain grows by a force. -/
def growN (c : List Nat) (p : Nat × Nat) : List Nat := if c.getLast? = some p.1 then c ++ [p.2] else c
def chN (C : List (Nat × Nat)) (v : Nat) : List Nat := C.foldl growN [v]
theorem ord_split : ∀ (pre : List (Nat × Nat)) (s : Nat) (p : Nat × Nat) (D : List (Nat × Nat)), Ord s (pre ++ p :: D) → ∀ q ∈ pre, q.1 ≠ p.2
  | [], _, _, _, _, q, hq => by cases hq
  | r :: pre, s, p, D, h, q, hq => by
    obtain ⟨h1, h2, h3⟩ := h
    rcases List.mem_cons.1 hq with rfl | hq
    · intro e
      have := (ord_pos _ _ h3 p (by simp)).2
      rw [← e, Nat.testBit_or, h1] at this
      cases this
    · exact ord_split pre _ p D h3 q hq
theorem fold_isSome {v : Int} : ∀ (l : List (Nat × Nat)) (o : Option Nat), (o.isSome = true ∨ ∃ p ∈ l, (p.1 : Int) = v) → (l.foldl (nxtF v) o).isSome = true
  | [], o, h => by
    rcases h with h | ⟨p, hp, _⟩
    · exact h
    · cases hp
  | p :: l, o, h => by
    rw [List.foldl_cons]
    refine fold_isSome l _ ?_
    by_cases hc : (p.1 : Int) = v
    · exact .inl (by unfold nxtF; rw [if_pos hc]; rfl)
    · rcases h with h | ⟨q, hq, e⟩
      · exact .inl (by unfold nxtF; rw [if_neg hc]; exact h)
      · rcases List.mem_cons.1 hq with rfl | hq
        · exact absurd e hc
        · exact .inr ⟨q, hq, e⟩
theorem nodup_inj : ∀ {C : List (Nat × Nat)}, (C.map (·.1)).Nodup → ∀ p ∈ C, ∀ q ∈ C, p.1 = q.1 → p = q
  | [], _, p, hp, _, _, _ => by cases hp
  | r :: C, h, p, hp, q, hq, e => by
    rw [List.map_cons, List.nodup_cons] at h
    rcases List.mem_cons.1 hp with e1 | hp' <;> rcases List.mem_cons.1 hq with e2 | hq'
    · rw [e1, e2]
    · exact absurd (List.mem_map.2 ⟨q, hq', by rw [← e, e1]⟩ : r.1 ∈ C.map (·.1)) h.1
    · exact absurd (List.mem_map.2 ⟨p, hp', by rw [e, e2]⟩ : r.1 ∈ C.map (·.1)) h.1
    · exact nodup_inj h.2 p hp' q hq' e
theorem nxt_of {C : List (Nat × Nat)} (hs : (C.map (·.1)).Nodup) {p : Nat × Nat} (hp : p ∈ C) : nxt C (p.1 : Int) = some p.2 := by
  have h := fold_isSome (v := (p.1 : Int)) C none (.inr ⟨p, hp, rfl⟩)
  obtain ⟨u, hu⟩ := Option.isSome_iff_exists.1 h
  have hu' : nxt C (p.1 : Int) = some u := hu
  obtain ⟨q, hq, e1, e2⟩ := nxt_some hu'
  have := nodup_inj hs q hq p hp (by omega)
  rw [hu', ← e2, this]
theorem nxt_no {C : List (Nat × Nat)} {x : Nat} (h : ∀ q ∈ C, q.1 ≠ x) : nxt C (x : Int) = none := by
  cases e : nxt C (x : Int) with
  | none => rfl
  | some u =>
    obtain ⟨q, hq, e1, _⟩ := nxt_some e
    exact absurd (by omega) (h q hq)
theorem tail_no {C : List (Nat × Nat)} {x : Nat} (h : ∀ q ∈ C, q.1 ≠ x) (k : Nat) : tailF C k (x : Int) = [] := by
  cases k with
  | zero => rfl
  | succ k => rw [tailF, nxt_no h]
theorem grow_tail {C : List (Nat × Nat)} {s : Nat} (ho : Ord s C) (hs : (C.map (·.1)).Nodup) : ∀ (D pre : List (Nat × Nat)) (c : List Nat) (x k : Nat), C = pre ++ D → c.getLast? = some x → (∀ q ∈ pre, q.1 ≠ x) → D.length ≤ k →
    natsI (D.foldl growN c) = natsI c ++ tailF C k (x : Int)
  | [], pre, c, x, k, hC, hl, hp, hk => by
    rw [List.append_nil] at hC
    subst hC
    rw [tail_no hp, List.append_nil]; rfl
  | p :: D, pre, c, x, k, hC, hl, hp, hk => by
    have hC2 : C = (pre ++ [p]) ++ D := by rw [hC, List.append_assoc]; rfl
    rw [List.foldl_cons]
    have hpm : p ∈ C := by rw [hC]; simp
    rw [List.length_cons] at hk
    obtain ⟨k, rfl⟩ : ∃ j, k = j + 1 := ⟨k - 1, by omega⟩
    by_cases e : p.1 = x
    · have e1 : growN c p = c ++ [p.2] := by unfold growN; rw [hl, e, if_pos rfl]
      have hn := nxt_of hs hpm
      rw [e] at hn
      have hne := ord_ne ho p hpm
      rw [e1, tailF, hn]
      have := grow_tail ho hs D (pre ++ [p]) (c ++ [p.2]) p.2 k hC2 (by simp) (by
        intro q hq
        rcases List.mem_append.1 hq with hq | hq
        · exact ord_split pre s p D (by rw [← hC]; exact ho) q hq
        · rw [List.mem_singleton.1 hq]; exact hne) (by omega)
      rw [this]
      unfold natsI
      rw [List.map_append, List.append_assoc]
      rfl
    · have e1 : growN c p = c := by
        unfold growN
        rw [hl, if_neg]
        intro h; exact e (Option.some.inj h).symm
      rw [e1]
      exact grow_tail ho hs D (pre ++ [p]) c x (k + 1) hC2 hl (by
        intro q hq
        rcases List.mem_append.1 hq with hq | hq
        · exact hp q hq
        · rw [List.mem_singleton.1 hq]; exact e) (by omega)
theorem chain_nats {C : List (Nat × Nat)} {s : Nat} (ho : Ord s C) (hs : (C.map (·.1)).Nodup) (v : Nat) : chainI C (v : Int) = natsI (chN C v) := by
  unfold chainI chN
  rw [grow_tail ho hs C [] [v] v C.length rfl rfl (fun q hq => by cases hq) (Nat.le_refl _)]
  rfl
theorem chron_src {near : Nat → Nat} {n : Nat} (hn : n ≤ 12) (hr : ∀ v, near v < 2 ^ n) : ∀ (k s : Nat), s < 2 ^ n → ((chronL near k s).1.map (·.1)).Nodup ∧ ∀ p ∈ (chronL near k s).1, ¬ Sub (near p.1) s := by
  intro k
  induction k with
  | zero => intro s _; exact ⟨List.nodup_nil, fun p hp => by cases hp⟩
  | succ k ih =>
    intro s hs
    rw [chronL]
    cases hx : nextM near s with
    | none => exact ⟨List.nodup_nil, fun p hp => by cases hp⟩
    | some v =>
      obtain ⟨h1, h2, h3, h4⟩ := one_force hn hr hx
      obtain ⟨i1, i2⟩ := ih (s ||| 2 ^ low (andNot (near v) s)) (Nat.or_lt_two_pow hs (Nat.pow_lt_pow_right (by decide) h4))
      dsimp only
      generalize low (andNot (near v) s) = u at h2 h3 h4 i1 i2 ⊢
      have hsub : Sub (near v) (s ||| 2 ^ u) := fun i hi => by
        rw [Nat.testBit_or]
        cases hb : s.testBit i with
        | true => rfl
        | false =>
          have : (andNot (near v) s).testBit i = true := by rw [testBit_andNot, hi, hb]; rfl
          rw [h2] at this
          rw [this]; rfl
      refine ⟨?_, ?_⟩
      · rw [List.map_cons, List.nodup_cons]
        refine ⟨fun hm => ?_, i1⟩
        obtain ⟨q, hq, e⟩ := List.mem_map.1 hm
        have e' : q.1 = v := e
        exact i2 q hq (by rw [e']; exact hsub)
      · intro p hp
        rcases List.mem_cons.1 hp with rfl | hp
        · intro hsb
          have : (andNot (near v) s).testBit u = true := by rw [h2, testBit_pow]; exact decide_eq_true rfl
          obtain ⟨a1, a2⟩ := disj_andNot this
          rw [hsb u a1] at a2; cases a2
        · exact fun hsb => i2 p hp (hsb.trans (sub_or_left _ _))
/-- The chains of what is wet. -/
structure ChInv (near : Nat → Nat) (s0 wet : Nat) (out : List (List Nat)) : Prop where
  heads : out.map List.head? = (bitsOf s0).map some
  nodup : out.flatten.Nodup
  mem : ∀ x, x ∈ out.flatten ↔ wet.testBit x = true
  adj : ∀ c ∈ out, ∀ i (h : i + 1 < c.length), (near (c[i + 1])).testBit (c[i]) = true
  done : ∀ c ∈ out, ∀ x ∈ c.dropLast, Sub (near x) wet
theorem ChInv.start {near : Nat → Nat} {s : Nat} (hs : s < 2 ^ 64) : ChInv near s s ((bitsOf s).map fun v => [v]) where
  heads := by rw [List.map_map]; rfl
  nodup := by
    have : ((bitsOf s).map fun v => [v]).flatten = bitsOf s := by
      generalize bitsOf s = l
      induction l with
      | nil => rfl
      | cons a l ih => rw [List.map_cons, List.flatten_cons, ih]; rfl
    rw [this]; exact bitsOf_nodup s
  mem := fun x => by
    have : ((bitsOf s).map fun v => [v]).flatten = bitsOf s := by
      generalize bitsOf s = l
      induction l with
      | nil => rfl
      | cons a l ih => rw [List.map_cons, List.flatten_cons, ih]; rfl
    rw [this, mem_bitsOf]
    exact ⟨fun h => h.2, fun h => ⟨bit_lt hs h, h⟩⟩
  adj := fun c hc i h => by
    obtain ⟨v, _, rfl⟩ := List.mem_map.1 hc
    simp at h
  done := fun c hc x hx => by
    obtain ⟨v, _, rfl⟩ := List.mem_map.1 hc
    simp at hx
theorem adj_snoc {near : Nat → Nat} {c : List Nat} {u v : Nat} (ha : ∀ i (h : i + 1 < c.length), (near (c[i + 1])).testBit (c[i]) = true) (hl : c.getLast? = some u) (huv : (near v).testBit u = true) : ∀ i (h : i + 1 < (c ++ [v]).length), (near ((c ++ [v])[i + 1])).testBit ((c ++ [v])[i]) = true := by
  intro i h
  have hlen : (c ++ [v]).length = c.length + 1 := by simp
  by_cases h2 : i + 1 < c.length
  · have e1 : (c ++ [v])[i + 1] = c[i + 1] := List.getElem_append_left h2
    have e2 : (c ++ [v])[i] = c[i] := List.getElem_append_left (by omega)
    rw [e1, e2]; exact ha i h2
  · have e1 : (c ++ [v])[i + 1] = v := by
      rw [List.getElem_append_right (by omega)]
      simp
    have e2 : (c ++ [v])[i]'(by omega) = u := by
      rw [List.getElem_append_left (by omega)]
      rw [List.getLast?_eq_getElem?, List.getElem?_eq_getElem (by omega)] at hl
      have := Option.some.inj hl
      rw [← this]
      congr 1
      omega
    rw [e1, e2]; exact huv
theorem ChInv.step {near : Nat → Nat} {s wet u v : Nat} {out : List (List Nat)} (sym : ∀ a b, (near a).testBit b = true → (near b).testBit a = true) (h : ChInv near s wet out) (h1 : wet.testBit u = true) (h2 : andNot (near u) wet = 2 ^ v) (h3 : wet.testBit v = false) :
    ChInv near s (wet ||| 2 ^ v) (out.map (growN · (u, v))) := by
  have huv : (near u).testBit v = true := by
    have : (andNot (near u) wet).testBit v = true := by rw [h2, testBit_pow]; exact decide_eq_true rfl
    exact (disj_andNot this).1
  have hsub : Sub (near u) (wet ||| 2 ^ v) := fun i hi => by
    rw [Nat.testBit_or]
    cases hb : wet.testBit i with
    | true => rfl
    | false =>
      have : (andNot (near u) wet).testBit i = true := by rw [testBit_andNot, hi, hb]; rfl
      rw [h2] at this
      rw [this]; rfl
  obtain ⟨c, hc, huc⟩ := List.mem_flatten.1 ((h.mem u).2 h1)
  obtain ⟨A, B, rfl⟩ := List.append_of_mem hc
  have hnd := h.nodup
  rw [List.flatten_append, List.flatten_cons] at hnd
  have hlast : c.getLast? = some u := by
    have hne : c ≠ [] := List.ne_nil_of_mem huc
    have e := List.dropLast_concat_getLast hne
    have hu' := huc
    rw [← e] at hu'
    rcases List.mem_append.1 hu' with hu' | hu'
    · have := h.done c hc u hu' v huv
      rw [h3] at this; cases this
    · rw [List.getLast?_eq_some_getLast hne, List.mem_singleton.1 hu']
  obtain ⟨c', rfl⟩ : ∃ c', c = c' ++ [u] := by
    have hne : c ≠ [] := List.ne_nil_of_mem huc
    refine ⟨c.dropLast, ?_⟩
    have e := List.dropLast_concat_getLast hne
    rw [List.getLast?_eq_some_getLast hne] at hlast
    rw [Option.some.inj hlast] at e
    exact e.symm
  rw [List.nodup_append] at hnd
  obtain ⟨n1, n2, n3⟩ := hnd
  rw [List.nodup_append] at n2
  obtain ⟨n4, n5, n6⟩ := n2
  have same : ∀ (L : List (List Nat)), u ∉ L.flatten → L.map (growN · (u, v)) = L := by
    intro L hL
    conv => rhs; rw [← List.map_id L]
    refine List.map_congr_left fun d hd => ?_
    unfold growN
    rw [if_neg]; · rfl
    intro e
    apply hL
    refine List.mem_flatten.2 ⟨d, hd, List.mem_of_getLast? e⟩
  have eA := same A (fun hm => n3 u hm u (by simp) rfl)
  have eB := same B (fun hm => n6 u (by simp) u hm rfl)
  have eC : growN (c' ++ [u]) (u, v) = c' ++ [u] ++ [v] := by unfold growN; rw [hlast, if_pos rfl]
  have eq : (A ++ (c' ++ [u]) :: B).map (growN · (u, v)) = A ++ (c' ++ [u] ++ [v]) :: B := by
    rw [List.map_append, List.map_cons, eA, eB, eC]
  have hmem := h.mem
  have hv : v ∉ (A ++ (c' ++ [u]) :: B).flatten := fun hm => by
    have := (hmem v).1 hm
    rw [h3] at this; cases this
  rw [eq]
  refine ⟨?_, ?_, ?_, ?_, ?_⟩
  · have := h.heads
    rw [← this, List.map_append, List.map_append, List.map_cons, List.map_cons]
    congr 2
    cases c' <;> rfl
  · have hp : (A ++ (c' ++ [u] ++ [v]) :: B).flatten.Perm (v :: (A ++ (c' ++ [u]) :: B).flatten) := by
      have := List.perm_middle (a := v) (l₁ := A.flatten ++ (c' ++ [u])) (l₂ := B.flatten)
      simp only [List.flatten_append, List.flatten_cons, List.append_assoc, List.cons_append, List.nil_append] at this ⊢
      exact this
    rw [hp.nodup_iff, List.nodup_cons]
    exact ⟨hv, h.nodup⟩
  · intro x
    rw [Nat.testBit_or, Bool.or_eq_true, ← hmem x, testBit_pow, decide_eq_true_iff]
    simp only [List.flatten_append, List.flatten_cons, List.mem_append, List.mem_singleton]
    constructor
    · rintro (h | (((h | h) | h) | h))
      · exact .inl (.inl h)
      · exact .inl (.inr (.inl (.inl h)))
      · exact .inl (.inr (.inl (.inr h)))
      · exact .inr h.symm
      · exact .inl (.inr (.inr h))
    · rintro ((h | ((h | h) | h)) | h)
      · exact .inl h
      · exact .inr (.inl (.inl (.inl h)))
      · exact .inr (.inl (.inl (.inr h)))
      · exact .inr (.inr h)
      · exact .inr (.inl (.inr h.symm))
  · intro d hd i hi
    rcases List.mem_append.1 hd with hd | hd
    · exact h.adj d (List.mem_append_left _ hd) i hi
    · rcases List.mem_cons.1 hd with rfl | hd
      · exact adj_snoc (fun i hi => h.adj _ hc i hi) hlast (sym u v huv) i hi
      · exact h.adj d (List.mem_append_right _ (List.mem_cons_of_mem _ hd)) i hi
  · intro d hd x hx
    rcases List.mem_append.1 hd with hd | hd
    · exact (h.done d (List.mem_append_left _ hd) x hx).trans (sub_or_left _ _)
    · rcases List.mem_cons.1 hd with rfl | hd
      · rw [List.dropLast_concat] at hx
        rcases List.mem_append.1 hx with hx | hx
        · refine (h.done _ hc x ?_).trans (sub_or_left _ _)
          rw [List.dropLast_concat]; exact hx
        · rw [List.mem_singleton.1 hx]; exact hsub
      · exact (h.done d (List.mem_append_right _ (List.mem_cons_of_mem _ hd)) x hx).trans (sub_or_left _ _)
theorem ChInv.run {near : Nat → Nat} {n s0 : Nat} (hn : n ≤ 12) (hr : ∀ v, near v < 2 ^ n) (sym : ∀ a b, (near a).testBit b = true → (near b).testBit a = true) : ∀ (k s : Nat) (out : List (List Nat)), s < 2 ^ n → ChInv near s0 s out →
    ChInv near s0 (chronL near k s).2 (out.map fun c => (chronL near k s).1.foldl growN c) := by
  intro k
  induction k with
  | zero => intro s out _ h; simp only [chronL, List.foldl_nil, List.map_id']; exact h
  | succ k ih =>
    intro s out hs h
    rw [chronL]
    cases hx : nextM near s with
    | none => simp only [List.foldl_nil, List.map_id']; exact h
    | some v =>
      obtain ⟨h1, h2, h3, h4⟩ := one_force hn hr hx
      have := ih _ _ (Nat.or_lt_two_pow hs (Nat.pow_lt_pow_right (by decide) h4)) (h.step sym h1 h2 h3)
      rw [List.map_map] at this
      exact this
theorem ChInv.bound {near : Nat → Nat} {s0 wet n : Nat} {out : List (List Nat)} (h : ChInv near s0 wet out) (hw : wet < 2 ^ n) : ∀ c ∈ out, c ≠ [] ∧ c.Nodup ∧ c.length ≤ n ∧ ∀ x ∈ c, x < n := by
  intro c hc
  have hlt : ∀ x ∈ c, x < n := fun x hx => bit_lt hw ((h.mem x).1 (List.mem_flatten.2 ⟨c, hc, hx⟩))
  have hnd : c.Nodup := by
    obtain ⟨A, B, rfl⟩ := List.append_of_mem hc
    have := h.nodup
    rw [List.flatten_append, List.flatten_cons, List.nodup_append, List.nodup_append] at this
    exact this.2.1.1
  refine ⟨?_, hnd, nodup_lt hnd hlt, hlt⟩
  rintro rfl
  have : (none : Option Nat) ∈ (bitsOf s0).map some := by rw [← h.heads]; exact List.mem_map.2 ⟨[], hc, rfl⟩
  obtain ⟨v, _, e⟩ := List.mem_map.1 this
  cases e
theorem ChInv.length {near : Nat → Nat} {s0 wet : Nat} {out : List (List Nat)} (h : ChInv near s0 wet out) : out.length = (bitsOf s0).length := by
  have := congrArg List.length h.heads
  simpa using this
/-- The chains that Chains makes of a set. -/
def chainsN (near : Nat → Nat) (n s : Nat) : List (List Nat) := (bitsOf s).map (chN (chronL near (2 ^ n - s) s).1)
theorem chains_inv {near : Nat → Nat} {n s : Nat} (hn : n ≤ 12) (hr : ∀ v, near v < 2 ^ n) (sym : ∀ a b, (near a).testBit b = true → (near b).testBit a = true) (hs : s < 2 ^ n) : ChInv near s (cl (forcedM near) n s) (chainsN near n s) := by
  have := ChInv.run hn hr sym (2 ^ n - s) s _ hs (ChInv.start (lt64 hn hs))
  rw [chron_cl hn hr hs, List.map_map] at this
  exact this
theorem chains_I {near : Nat → Nat} {n s : Nat} (hn : n ≤ 12) (hr : ∀ v, near v < 2 ^ n) (hs : s < 2 ^ n) : (natsI (bitsOf s)).map (chainI (chronL near (2 ^ n - s) s).1) = (chainsN near n s).map natsI := by
  unfold natsI chainsN
  rw [List.map_map, List.map_map]
  refine List.map_congr_left fun v _ => ?_
  exact chain_nats (chronL_ord hn hr _ s hs).1 (chron_src hn hr _ s hs).1 v
theorem chainsX_of {n t : Nat} {l : List S48} {s : List Int} (hg : GOk n l (nearOf l)) (hb : bothM (n : Int) l s = some (⟨n, nearOf l⟩, t)) (ht : t < 2 ^ n) : chainsX (n : Int) l s = if cl (forcedM (nearOf l)) n t = full n then ((chainsN (nearOf l) n t).map natsI, 0) else ([], 6) := by
  have hs : s = natsI (bitsOf t) := by
    unfold bothM at hb
    obtain ⟨g', h1, h2⟩ := Option.bind_eq_some_iff.1 hb
    obtain ⟨t', h3, h4⟩ := Option.map_eq_some_iff.1 h2
    cases h4
    exact (setM_some (by have := hg.le; show n ≤ 64; omega) h3).2
  unfold chainsX
  rw [hb]
  show (if (chronL (nearOf l) (2 ^ n - t) t).2 = full n then _ else _) = _
  rw [chron_cl hg.le hg.lt ht, hs]
  split
  · show (((natsI (bitsOf t)).map (chainI (chronL (nearOf l) (2 ^ n - t) t).1)), (0 : Int)) = _
    rw [chains_I hg.le hg.lt ht]
  · rfl
theorem rd_M {M : List (List Nat)} {i : Nat} (h : i < M.length) : rd_L3 (M.map natsI) (i : Int) = natsI M[i] := by
  unfold rd_L3
  rw [Int.toNat_natCast, List.getD_eq_getElem?_getD, List.getElem?_map, List.getElem?_eq_getElem h]
  rfl
theorem last_rd {c : List Nat} (h : c ≠ []) (hl : c.length ≤ 1000) : wrap64 (((natsI c).length : Int) - 1) = ((c.length - 1 : Nat) : Int) ∧ rd (natsI c) ((c.length - 1 : Nat) : Int) = ((c.getLast h : Nat) : Int) := by
  have hp := List.length_pos_iff.2 h
  refine ⟨by rw [natsI_length]; unfold wrap64; omega, ?_⟩
  rw [rd_nats (by omega), List.getLast_eq_getElem]
end Go.Proofs.YtpbeaaihdmfnlaaDoor.P

/- ### Wy -/
namespace Go.Proofs.YtpbeaaihdmfnlaaDoor.H
open Go Go.RowKit Go.Shelf Go.Proofs.YtpbeaaihdmfnlaaDoor.M Go.Proofs.YtpbeaaihdmfnlaaDoor.G Go.Proofs.YtpbeaaihdmfnlaaDoorW.PrintWords
attribute [local go_sem] Oper.semAt_some wide_fn run_map107 eqA108
attribute [local go_sem ↓ high] loadAt81 storeAt81
attribute [local go_sem] rowOk_drew cellsAt_drew run_loadRow run_storeRow
theorem own_same3 {W W' : World} {b n : Nat} {D : DataW Unit} (h : W.ownsMap Tryd.prog 3 (plainElem (H := Unit) Tryd.prog 3) b n D) (hb : W'.heap[b]? = W.heap[b]?) : W'.ownsMap Tryd.prog 3 (plainElem (H := Unit) Tryd.prog 3) b n D := by
  obtain ⟨es, clock, h1, h2⟩ := h
  exact ⟨es, clock, hb.trans h1, h2⟩
theorem chainsX_bad {n : Int} {l : List S48} {s : List Int} {g : Gr} {t : Nat} (h : bothM n l s = some (g, t)) (h2 : (chronL g.near (2 ^ g.n - t) t).2 ≠ full g.n) : chainsX n l s = ([], 6) := by unfold chainsX; rw [h]; exact if_neg h2
theorem chainsX_ok {n : Int} {l : List S48} {s : List Int} {g : Gr} {t : Nat} (h : bothM n l s = some (g, t)) (h2 : (chronL g.near (2 ^ g.n - t) t).2 = full g.n) : chainsX n l s = (s.map (chainI (chronL g.near (2 ^ g.n - t) t).1), 0) := by unfold chainsX; rw [h]; exact if_pos h2
theorem intsV_snoc (l : List Int) (x : Int) : intsV l ++ [.int .i64 x] = intsV (l ++ [x]) := by simp [intsV]
theorem tailF_none {C : List (Nat × Nat)} {x : Int} (h : nxt C x = none) (k : Nat) : tailF C k x = [] := by
  cases k with
  | zero => rfl
  | succ k => rw [tailF, h]
theorem LL.add {N : Nat} {W2 W3 : World} {v u : Value} {xs : List (List Int)} {l : List Int} (hLL : LL (fun _ => True) W2 N v xs) (hNB : N ≤ W2.heap.size) (hb : Below W2.heap.size W2 W3) (hu : W3.ownsRow W2.heap.size 3 1 u l.length (intsV l)) :
    ∃ inner, (W3.alloc (.cells #[u] 24)).ownsRow N 24 1 v xs.length inner ∧ u.oneCell' = true ∧ (W3.alloc (.cells #[u] 24)).cell? ⟨W3.heap.size, 0, none⟩ = some u ∧
      ∀ v1 w1, w1.ownsRow N 24 1 v1 (xs.length + 1) (inner ++ [u]) → (W3.alloc (.cells #[u] 24)).grownBy w1 v.ownBlock → (v1.ownBlock = v.ownBlock ∨ v1.ownBlock = some (W3.alloc (.cells #[u] 24)).heap.size) → LL (fun _ => True) w1 N v1 (xs ++ [l]) ∧ Below N W2 w1 := by
  have hs3 := hb.size
  have hown := hLL.own
  obtain ⟨W6, hW6⟩ : ∃ W6, W3.alloc (.cells #[u] 24) = W6 := ⟨_, rfl⟩
  have hn6 : W6.heap[W3.heap.size]? = some (.cells #[u] 24) := by rw [← hW6]; exact World.alloc_heap_new _ _
  have hs6 : W6.heap.size = W3.heap.size + 1 := by rw [← hW6]; exact World.size_alloc _ _
  have hb6 : Below W3.heap.size W3 W6 := by rw [← hW6]; exact (Below.refl _ _).alloc (Nat.le_refl _) _
  have hb26 : Below W2.heap.size W2 W6 := hb.trans (hb6.mono hs3)
  have h1 : LL (fun k => k < W2.heap.size) W2 N v xs := Kd.S_mono (Kd.S_bound hLL) (fun k hk => hk.2.2.1)
  have h2 : LL (fun k => k < W2.heap.size) W6 N v xs := Kd.S_move h1 (fun k hk => hb26.block k hk)
  have h3 : LL (fun k => True ∧ ¬ (W2.heap.size ≤ k ∧ k < W6.heap.size)) W6 N v xs := Kd.S_mono h2 (fun k hk => ⟨trivial, fun h => by omega⟩)
  have hu5 : Kd.R (Kd.int .i64) 3 W3 N (fun k => W2.heap.size ≤ k ∧ k < W6.heap.size) u l := Kd.R_lower (Kd.R_mono (Kd.R_bound (resL_ints hu)) (fun k hk => ⟨hk.2.1, by have := hk.2.2.1; omega⟩)) hNB
  have hu6 : Kd.R (Kd.int .i64) 3 W6 N (fun k => W2.heap.size ≤ k ∧ k < W6.heap.size) u l := Kd.R_below hu5 hb6
  obtain ⟨inner, hrow, hnext⟩ := LL.snoc h3 hu6 (fun k hk => ⟨trivial, fun e => by
    have := (hown k e.symm).2.2.1
    omega⟩) (fun k _ => trivial)
  rw [hW6]
  refine ⟨inner, hrow, row_one hu, one_cell hn6, fun v1 w1 ho hg hat => ⟨hnext v1 w1 ho hg ?_, ?_⟩⟩
  · rcases hat with h | h
    · exact .inl h
    · exact .inr ⟨_, h, Nat.le_refl _⟩
  · exact (hb26.mono hNB).grown hg (by omega) (fun k e => (hown k e).2.1)
set_option maxHeartbeats 4000000 in
set_option maxRecDepth 100000 in
theorem chains_any (n : Int) (A : Option Addr) (c : Nat) (l : List S48) (A2 : Option Addr) (c2 : Nat) (s : List Int) (w : World) (hl : Kd.C k48 w A l.length l) (hc : l.length ≤ c) (hlen : fitL l) (hn : inI n) (hs : Kd.C (Kd.int .i64) w A2 s.length s) (hc2 : s.length ≤ c2) (hlen2 : fitL s) (ht : Tab w) : Calls Tryd.prog 53 #[.int .i64 n, .slice A l.length c, .slice A2 s.length c2] w fun e w' => ∃ v, e = .returned (.tuple #[v, .int .i64 (chainsX n l s).2]) ∧ Kd.S (Kd.slice 3 (Kd.int .i64)) 24 w' w.heap.size (fun _ => True) v (chainsX n l s).1 ∧ Below w.heap.size w w' := by
  have h1w : 1 < w.heap.size := (ht 0 (by decide)).2
  refine (callsIn_wide (n := 9)).1 ?_
  refine callsIn_of_wp Tryd.func53 rfl trivial ?_
  simp only [Tryd.ntmps53, List.size_toArray, List.length_cons, List.length_nil, Nat.reduceAdd, Nat.reduceSub, Array.replicate_succ, Array.replicate_zero, List.push_toArray, List.append_toArray, List.nil_append, List.cons_append]
  have HL := Lib.hid hl
  have HS := Lib.hid hs
  have HT := Lib.hid ht
  unfold fitL at hlen hlen2
  obtain ⟨hn1, hn2⟩ := hn
  clear hl hs ht
  gi_wp2_with fail
  refine (callsIn_wide.2 (both_any n A c l A2 c2 s _ HL.out hc hlen hn1 hn2 HS.out hc2 hlen2)).mono ?_
  rintro e w1 ⟨x, near, b, t, rfl, hg, hb1⟩
  have hsz := hb1.size
  obtain ⟨m0, m1, m2⟩ := lay1 w1 (.cells #[.int .i64 0, .int .u64 0, .int .u64 0, .int .u64 0, .int .u64 0, .int .u64 0, .int .u64 0, .int .u64 0, .int .u64 0, .int .u64 0, .int .u64 0, .int .u64 0, .int .u64 0] 81)
  obtain ⟨y1, y2, y3, y4⟩ := setRow_two (B := w1.heap.size) (cs := cellsI x near) m0 (Nat.le_refl _)
  rw [m1] at y3
  have bW2 := hb1.trans ((m2.trans y4).mono (B' := w.heap.size) (by omega))
  have hrf := rowFree_of m0 rfl
  have hag := aggOk_cells x near
  have hr1 := rowOk_any y1 rfl
  have hr2 := cellsAt_of y1
  have HG := Lib.hid hg
  have Y1 := Lib.hid y1
  have BW := Lib.hid bW2
  have HTW := Lib.hid (tab_below bW2 h1w HT.out)
  clear hb1 m0 m1 m2 y1 y2 y4 bW2 hg
  cases b with
  | false =>
    gi_wp2_with fail
    have hnn : bothM n l s = none := by
      rcases HG.out with ⟨h, _⟩ | ⟨g, _, h, _⟩
      · exact h
      · cases h
    refine bodyPost_ret (v := .tuple #[.slice none 0 0, .int .i64 2]) (results_tmp2 (t := 6) (u := 7) rfl _ _ _) rfl ?_
    unfold chainsX; rw [hnn]
    exact ⟨_, rfl, Kd.S_nil _ _ _ _ _, BW.out⟩
  | true =>
    obtain ⟨g, hg, hcg, hlt⟩ : ∃ g, bothM n l s = some (g, t) ∧ cellsI x near = g.cells ∧ t < 2 ^ g.n := by
      rcases HG.out with ⟨_, h⟩ | ⟨g, h1, _, h2, h3⟩
      · cases h
      · exact ⟨g, h1, h2, h3⟩
    have hok : g.Ok := by
      unfold bothM at hg
      obtain ⟨g', h1, h2⟩ := Option.bind_eq_some_iff.1 hg
      obtain ⟨t', _, h4⟩ := Option.map_eq_some_iff.1 h2
      cases h4
      exact (graphM_ok h1).1
    have hle := hok.le
    have hpos := hok.pos
    have hst : s = natsI (bitsOf t) := by
      unfold bothM at hg
      obtain ⟨g', h1, h2⟩ := Option.bind_eq_some_iff.1 hg
      obtain ⟨t', h3, h4⟩ := Option.map_eq_some_iff.1 h2
      cases h4
      exact (P.setM_some (by omega) h3).2
    have hsv : ∀ i, i < s.length → ∃ v : Nat, rd s (i : Int) = v ∧ v < 64 := by
      intro i hi
      rw [P.rd_at hi]
      have hm : s[i] ∈ natsI (bitsOf t) := by rw [← hst]; exact List.getElem_mem hi
      obtain ⟨v, hv, e⟩ := List.mem_map.1 hm
      exact ⟨v, e.symm, (mem_bitsOf.1 hv).1⟩
    have HSV := Lib.hid hsv
    have hsl64 : s.length ≤ 64 := by rw [hst, P.natsI_length]; exact Nat.le_trans (List.length_filter_le _ _) (by simp)
    have hrk := chronL_ord hle hok.near (2 ^ g.n - t) t hlt
    have HRK := Lib.hid hrk
    have HGG := Lib.hid hg
    have HCG := Lib.hid hcg
    have HLT := Lib.hid hlt
    have HOK := Lib.hid hok
    clear hg hcg hlt hok hst hsv hrk
    gi_wp2_with fail
    refine (callsIn_wide.2 (chronicle_any' g HOK.out _ HCG.out t HLT.out _ HTW.out)).mono ?_
    rintro e w2 ⟨v, rfl, hrow, hb2⟩
    rw [y3] at hb2
    have bW3 := BW.out.trans (hb2.mono (B' := w.heap.size) (by omega))
    have hsz2 := hb2.size
    rw [y3] at hsz2
    obtain ⟨C, hC⟩ : ∃ C, (chronL g.near (2 ^ g.n - t) t).1 = C := ⟨_, rfl⟩
    obtain ⟨E, hE⟩ : ∃ E, (chronL g.near (2 ^ g.n - t) t).2 = E := ⟨_, rfl⟩
    have hCl : C.length ≤ 4096 := by
      have h1 := chronL_len g.near (2 ^ g.n - t) t
      have h2 : 2 ^ g.n ≤ 4096 := Nat.pow_le_pow_right (by decide) hle
      rw [hC] at h1; omega
    rw [hC] at hrow
    have hrk := HRK.out
    rw [hC] at hrk
    have HCK := Lib.hid hrk
    have HC := Lib.hid hC
    have HE := Lib.hid hE
    have HROW := Lib.hid hrow
    have HB2 := Lib.hid bW3
    have g8 := (hb2.block w1.heap.size (by omega)).trans Y1.out
    have r8 := rowOk_any g8 rfl
    have c8 := cellsAt_of g8
    obtain ⟨A3, c3, hv⟩ := own_slice hrow
    subst hv
    rw [hE]
    clear hC hE hb2 bW3 hr1 hr2 hrf hag hrow hrk g8
    gi_wp2_with fail
    rw [HCG.out]
    refine (callsIn_wide.2 (all_any g HOK.out _)).mono ?_
    rintro e w3 ⟨rfl, hb3⟩
    have bW4 := HB2.out.trans (hb3.mono (B' := w.heap.size) (by omega))
    have hrow4 := row_below HROW.out hb3 (Nat.le_refl _)
    have hsz3 := hb3.size
    have HB3 := Lib.hid bW4
    have HROW3 := Lib.hid hrow4
    clear hb3 bW4 hrow4 r8 c8
    by_cases hEq : E = full g.n
    · subst hEq
      obtain ⟨M, hM⟩ : ∃ M, w3.heap.size = M := ⟨_, rfl⟩
      gi_wp2_with fail
      obtain ⟨f0, f1, f2⟩ := lay1 w3 (.map #[] 0)
      have own0 := World.ownsMap_made (H := Unit) w3 Tryd.prog 3 (plainElem (H := Unit) Tryd.prog 3)
      rw [hM] at f0 f1 f2 own0
      generalize w3.alloc (.map #[] 0) = W0 at f0 f1 f2 own0 ⊢
      have FB := Lib.hid f2
      have OW := Lib.hid own0
      clear f0 f2 own0
      gi_loopg [45] C.length (fun k s45 W => ∃ i : Nat, s45 = .int .i64 (i : Int) ∧ i ≤ C.length ∧ C.length ≤ k + i ∧ Below M w3 W ∧ W.ownsMap Tryd.prog 3 (plainElem (H := Unit) Tryd.prog 3) M i (mapD (C.take i)) ∧ M + 1 ≤ W.heap.size)
      case atStart => exact ⟨0, rfl, by omega, by omega, FB.out, OW.out, by omega⟩
      case round =>
        obtain ⟨i, rfl, hi2, hk, hB, hO, hsW⟩ := hrel
        have HB := Lib.hid hB
        have HO := Lib.hid hO
        clear hB hO
        by_cases hil : i < C.length
        · obtain ⟨g', cap, hsl, hgN, hgl, hc0, hc1⟩ := row_pair HROW3.out i hil
          cases hsl
          have hgw : g' < M := by rw [← hM]; exact hgl
          have d0 := (cell_of_heap (HB.out.block g' hgw) ⟨g', i * 2, none⟩ rfl).trans hc0
          have d1 := (cell_of_heap (HB.out.block g' hgw) ⟨g', i * 2 + 1, none⟩ rfl).trans hc1
          have hCi : C.getD i (0, 0) = C[i] := by simp [List.getD_eq_getElem?_getD, List.getElem?_eq_getElem hil]
          have hmem := HCK.out.2 C[i] (List.getElem_mem hil)
          have hneq := ord_ne HCK.out.1 C[i] (List.getElem_mem hil)
          obtain ⟨a, ha⟩ : ∃ a, (C.getD i (0, 0)).1 = a := ⟨_, rfl⟩
          obtain ⟨b, hb⟩ : ∃ b, (C.getD i (0, 0)).2 = b := ⟨_, rfl⟩
          rw [ha] at d0
          rw [hb] at d1
          have hpair : C[i] = (a, b) := by rw [← hCi, ← ha, ← hb]
          rw [hpair] at hmem hneq
          have hab : ((a : Int) == 0 && (b : Int) == 0) = false := by
            cases h0 : ((a : Int) == 0) with
            | false => rfl
            | true =>
              have h1 : a = 0 := by simpa using h0
              rw [Bool.true_and, beq_eq_false_iff_ne]
              have := hneq
              simp only at this
              omega
          have ha12 : a < 4096 := by have := hmem.1; simp only at this; omega
          have hb12 : b < 4096 := by have := hmem.2; simp only at this; omega
          have hI0 : (0 : Int) ≤ (i : Int) := by omega
          have hI1 : (i : Int) < (C.length : Int) := by omega
          have own4 := HO.out.alloc (Obj.cells #[Value.int IntKind.i64 (a : Int), Value.int IntKind.i64 (b : Int)] 108)
          have HP := Lib.hid hpair
          clear hc0 hc1 ha hb hCi hmem hneq hpair
          gi_wp2_with (gi_at_mapUpdate; refine wpListIn_mapUpdate_own _ rfl _ _ _ 107 rfl 3 3 (Maps.int_keyed Tryd.underlying3) Tryd.underlying107 _ M i _ rfl own4 (by simp only [maxLen]; omega) _ _ _ rfl rfl (Maps.keyOf_int_mk Tryd.underlying3 (wf_i64 a ha12)) _ [] (plainElem_int Tryd.underlying3 (wf_i64 b hb12)) ?_; intro w4 hown5 hg5)
          have hb4 := (HB.out.alloc (by omega) (Obj.cells #[Value.int IntKind.i64 (a : Int), Value.int IntKind.i64 (b : Int)] 108)).grown hg5 (by simp only [World.size_alloc]; omega) (fun k e => by cases e; omega)
          have hs4 := hg5.size
          simp only [World.size_alloc] at hs4
          have HB4 := Lib.hid hb4
          have HO4 := Lib.hid hown5
          clear hb4 hown5 hg5 own4
          gi_roundg (C.length - (i + 1))
          case measure => omega
          case rel =>
            refine ⟨i + 1, by simp, by omega, by omega, HB4.out, ?_, by omega⟩
            rw [List.take_succ_eq_append_getElem hil, HP.out, mapD_snoc]
            exact HO4.out
        · have hiC : i = C.length := by omega
          subst hiC
          obtain ⟨N, hN⟩ : ∃ N, wr.heap.size = N := ⟨_, rfl⟩
          have hown := HO.out
          rw [List.take_length] at hown
          have HM := Lib.hid hown
          clear hown
          obtain ⟨W1, hW1⟩ : ∃ W1, W1 = wr := ⟨_, rfl⟩
          subst hW1
          gi_wp2_with fail
          gi_loopg [16, 60] s.length (fun k s16 s60 W => ∃ i : Nat, s60 = .int .i64 (i : Int) ∧ i ≤ s.length ∧ s.length ≤ k + i ∧ Below N W1 W ∧ LL (fun _ => True) W N s16 ((s.take i).map (chainI C)))
          case atStart => exact ⟨0, rfl, by omega, by omega, Below.refl _ _, Kd.S_nil _ _ _ _ _⟩
          case round =>
            obtain ⟨i, rfl, hi2, hk, hB5, hLL⟩ := hrel
            have HB5 := Lib.hid hB5
            have HLL := Lib.hid hLL
            clear hB5 hLL
            by_cases hil : i < s.length
            · obtain ⟨v, hv, hv64⟩ := HSV.out i hil
              have hI0 : (0 : Int) ≤ (i : Int) := by omega
              have hI1 : (i : Int) < (s.length : Int) := by omega
              obtain ⟨ad, e0, hx⟩ := Kd.at_int HS.out (i : Int) hI0 hI1
              cases e0
              rw [Int.toNat_natCast, hv] at hx
              have q3 := (HB3.out.cell (World.block_lt_of_cell? w _ hx)).trans hx
              have l3 := World.block_lt_of_cell? _ _ q3
              rw [hM] at l3
              have q4 := (HB.out.cell l3).trans q3
              have l4 := World.block_lt_of_cell? _ _ q4
              rw [hN] at l4
              have d0 := (HB5.out.cell l4).trans q4
              clear q3 l3 q4 l4 hx
              obtain ⟨W2, hW2⟩ : ∃ W2, W2 = wr := ⟨_, rfl⟩
              subst hW2
              have hs5 := HB5.out.size
              have own6 := (own_same3 HM.out (HB5.out.block M (by omega))).alloc (Obj.cells #[Value.int IntKind.i64 (v : Int)] 3)
              gi_wp2_with (gi_at_lookup; refine wpListIn_lookup_own_ok_int _ rfl _ _ 107 rfl 3 3 .i64 (Maps.int_keyed Tryd.underlying3) Tryd.underlying107 Tryd.underlying3 (zero3 _) M C.length (mapD C) rfl own6 _ _ rfl (Maps.keyOf_int_mk Tryd.underlying3 (wf_i64 v (by omega))) ?_; intro cc hat hwc; rw [mapD_has])
              have hcc : ∀ u : Nat, nxt C (v : Int) = some u → cc = (u : Int) := fun u hu => by
                rw [mapD_at hu] at hat
                injection hat with hat
                injection hat with _ hat
                exact hat.symm
              have row6 := World.ownsRow_lit (e := 3) (size := 1) W2 #[Value.int .i64 (v : Int)] 1 (Nat.le_refl _) (by decide) rfl
              have bel6 := (Below.refl W2.heap.size W2).alloc (Nat.le_refl _) (Obj.cells #[Value.int IntKind.i64 (v : Int)] 3)
              generalize W2.alloc (Obj.cells #[Value.int IntKind.i64 (v : Int)] 3) = W6 at row6 bel6 own6 ⊢
              have HR6 := Lib.hid row6
              have HBe := Lib.hid bel6
              have HCC := Lib.hid hcc
              clear row6 bel6 own6 hat hwc hcc
              gi_loopg [19, 20, 21] C.length (fun k s19 s20 s21 W => ∃ (x : Nat) (acc : List Int) (cx : Int), s20 = .int .i64 cx ∧ s21 = .bool (nxt C (x : Int)).isSome ∧ (∀ u : Nat, nxt C (x : Int) = some u → cx = (u : Int)) ∧ x < 4096 ∧ C.length ≤ k + rk C (x : Int) ∧ acc.length + k = C.length + 1 ∧
                W.ownsRow W2.heap.size 3 1 s19 acc.length (intsV acc) ∧ Below W2.heap.size W2 W ∧ acc ++ tailF C k (x : Int) = chainI C (v : Int))
              case atStart => exact ⟨v, [(v : Int)], cc, rfl, rfl, HCC.out, by omega, by omega, by simp; omega, HR6.out, HBe.out, rfl⟩
              case round =>
                obtain ⟨x, acc, cx, rfl, rfl, hcx, hx4, hrk, hal, hrow, hbe, hch⟩ := hrel
                have HCX := Lib.hid hcx
                have HRO := Lib.hid hrow
                have HBI := Lib.hid hbe
                have HCH := Lib.hid hch
                clear hcx hrow hbe hch
                cases hnx : nxt C (x : Int) with
                | none =>
                  have hfin : acc = chainI C (v : Int) := by rw [← HCH.out, tailF_none hnx, List.append_nil]
                  have hro := HRO.out
                  obtain ⟨A9, n9, k9, rfl⟩ := row_slice hro
                  obtain ⟨inner, ho, h1, hc6, hnext⟩ := LL.add HLL.out (by omega) HBI.out hro
                  obtain ⟨i0, hi, hz0, hz1, hz2⟩ := info_parts info24
                  have hslen : ((s.take i).map (chainI C)).length = i := by rw [List.length_map, List.length_take]; omega
                  rw [hslen] at ho hnext
                  rw [Option.isSome_none]
                  have HN := Lib.hid hnext
                  have HFI := Lib.hid hfin
                  have hbs := HBI.out.size
                  clear hro hnext hfin hslen
                  gi_wp2_with (gi_at_builtin; refine wpListIn_append_own_at _ rfl _ _ 28 rfl N 24 i0 (.slice none 0 0) 1 24 Tryd.underlying28 hi hz0 hz1 hz2 rfl (by decide) u16 i inner rfl ho ⟨wr.heap.size, 0, none⟩ 1 1 [.slice A9 n9 k9] rfl rfl (fun j y hj => by
                    rcases j with _ | j
                    · simp only [List.getElem?_cons_zero, Option.some.injEq] at hj
                      subst hj
                      show World.cell? _ (Addr.add ⟨wr.heap.size, 0, none⟩ 0) = _
                      have e : (Addr.add ⟨wr.heap.size, 0, none⟩ 0) = ⟨wr.heap.size, 0, none⟩ := by simp [Addr.add]
                      rw [e]; exact hc6
                    · simp at hj) (fun y hy => by obtain rfl := List.mem_singleton.1 hy; exact h1) (by unfold maxLen; omega) (by omega) (by simp; omega) ?_; intro v' w4 hown' hgrow _ hat2)
                  obtain ⟨hL2, hb2⟩ := HN.out v' w4 hown' hgrow hat2
                  have HL2 := Lib.hid hL2
                  have HBN := Lib.hid hb2
                  clear hown' hgrow hat2 hL2 hb2 ho hc6
                  gi_roundg (s.length - (i + 1))
                  case measure => omega
                  case rel =>
                    refine ⟨i + 1, by simp, by omega, by omega, HB5.out.trans HBN.out, ?_⟩
                    have e1 : s[i] = (v : Int) := by rw [← P.rd_at hil]; exact hv
                    rw [List.take_succ_eq_append_getElem hil, List.map_append, List.map_cons, List.map_nil, e1, ← HFI.out]
                    exact HL2.out
                | some u =>
                  have hcu := HCX.out u hnx
                  subst hcu
                  have hlt := nxt_rk HCK.out.1 hnx
                  have hle2 := rk_le C (u : Int)
                  have hu12 : u < 4096 := by
                    obtain ⟨p, hp, _, rfl⟩ := nxt_some hnx
                    have := (HCK.out.2 p hp).2
                    omega
                  obtain ⟨k', rfl⟩ : ∃ k', gk = k' + 1 := ⟨gk - 1, by omega⟩
                  have hch := HCH.out
                  rw [tailF, hnx] at hch
                  have HCH2 := Lib.hid hch
                  have hbs := HBI.out.size
                  have hbw : Below wr.heap.size wr (wr.alloc (Obj.cells #[Value.int IntKind.i64 (u : Int)] 3)) := (Below.refl _ _).alloc (Nat.le_refl _) _
                  have HBW := Lib.hid hbw
                  obtain ⟨i0, hi, hz0, hz1, hz2⟩ := info_parts info3
                  rw [Option.isSome_some]
                  clear hch hbw
                  gi_wp2_with (first
                    | (gi_at_builtin; refine wpListIn_append_own _ rfl _ _ 24 rfl W2.heap.size 3 i0 (.int .i64 0) 1 8 Tryd.underlying24 hi hz0 hz1 hz2 rfl (by decide) u19 acc.length (intsV acc) rfl (HRO.out.alloc _) ⟨wr.heap.size, 0, none⟩ 1 1 [.int .i64 (u : Int)] rfl rfl (cell_one_new _ _ _) (by simp [Value.oneCell']) (by unfold maxLen; omega) (by omega) (by simp; omega) ?_; intro v' w4 hown' hgrow _; obtain ⟨ha1, ha2, ha3, ha4⟩ := grown_same HRO.out HBW.out hgrow; have own7 := own_same3 HM.out ((ha1 M (by omega) (by omega)).trans ((HBI.out.block M (by omega)).trans (HB5.out.block M (by omega)))); have HO7 := Lib.hid hown'; have HA4 := Lib.hid ha4; clear hown' hgrow ha1 ha2 ha3 ha4)
                    | (gi_at_lookup; refine wpListIn_lookup_own_ok_int _ rfl _ _ 107 rfl 3 3 .i64 (Maps.int_keyed Tryd.underlying3) Tryd.underlying107 Tryd.underlying3 (zero3 _) M C.length (mapD C) rfl own7 _ _ rfl (Maps.keyOf_int_mk Tryd.underlying3 (wf_i64 u hu12)) ?_; intro c9 hat hwc; rw [mapD_has]))
                  gi_roundg k'
                  case measure => omega
                  case rel =>
                    refine ⟨u, acc ++ [(u : Int)], c9, rfl, rfl, fun y hy => ?_, hu12, by omega, by rw [List.length_append]; simp; omega, ?_, HBI.out.trans (HA4.out _ (Nat.le_refl _) hbs), ?_⟩
                    · rw [mapD_at hy] at hat
                      injection hat with hat
                      injection hat with _ hat
                      exact hat.symm
                    · rw [List.length_append, ← intsV_snoc]
                      exact HO7.out
                    · rw [List.append_assoc]
                      exact HCH2.out
            · have hiC : i = s.length := by omega
              subst hiC
              gi_wp2_with fail
              refine bodyPost_ret (v := .tuple #[u16, .int .i64 0]) (results_tmp2 (t := 6) (u := 7) rfl _ _ _) rfl ?_
              rw [chainsX_ok HGG.out HE.out, HC.out]
              have hl := HLL.out
              rw [List.take_length] at hl
              exact ⟨u16, rfl, Kd.S_lower hl (by omega), HB3.out.trans ((HB.out.mono (by omega)).trans (HB5.out.mono (by omega)))⟩
    · have hne : ((E : Int) == ((full g.n : Nat) : Int)) = false := by rw [beq_eq_false_iff_ne]; omega
      have hne2 : ((E : Int) != ((full g.n : Nat) : Int)) = true := by rw [bne_iff_ne]; omega
      gi_wp2_with fail
      refine bodyPost_ret (v := .tuple #[.slice none 0 0, .int .i64 6]) (results_tmp2 (t := 6) (u := 7) rfl _ _ _) rfl ?_
      rw [chainsX_bad HGG.out (by rw [HE.out]; exact hEq)]
      exact ⟨_, rfl, Kd.S_nil _ _ _ _ _, HB3.out⟩
end Go.Proofs.YtpbeaaihdmfnlaaDoor.H

/- ### ExtC -/
namespace Go.Proofs.YtpbeaaihdmfnlaaDoor.G
open Go Go.RowKit Go.Proofs.YtpbeaaihdmfnlaaDoorW.PrintWords Go.Proofs.YtpbeaaihdmfnlaaDoor.H
def wetting_Chains.f (a0 : Int) (l1 : List (S48)) (l2 : List Int) : Option ((List (List Int)) × (Int)) := if inI a0 ∧ fitL l1 ∧ fitL l2 then some (chainsX a0 l1 l2) else none
theorem wetting_Chains.calls (a0 : Int) (A1 : Option Addr) (c1 : Nat) (l1 : List (S48)) (A2 : Option Addr) (c2 : Nat) (l2 : List Int) (r1 : List (List Int)) (r2 : Int) (w : World) (hr1 : Kd.C k48 w A1 l1.length l1) (hc1 : l1.length ≤ c1) (hr2 : Kd.C (Kd.int .i64) w A2 l2.length l2) (hc2 : l2.length ≤ c2) (h : wetting_Chains.f a0 l1 l2 = some (r1, r2)) (hT : Tab w) :
    Calls Tryd.prog 53 #[.int .i64 a0, .slice A1 l1.length c1, .slice A2 l2.length c2] w fun e w' => ∃ v0_ : Value, e = .returned (.tuple #[v0_, .int .i64 r2]) ∧ Kd.S (Kd.slice 3 (Kd.int .i64)) 24 w' w.heap.size (fun _ => True) v0_ r1 ∧ Below w.heap.size w w' := by
  unfold wetting_Chains.f at h
  split at h
  · rename_i hc
    have h2 := chains_any a0 A1 c1 l1 A2 c2 l2 w hr1 hc1 hc.2.1 hc.1 hr2 hc2 hc.2.2 hT
    injection h with h
    rw [h] at h2
    exact h2
  · cases h
end Go.Proofs.YtpbeaaihdmfnlaaDoor.G

/- ### Gx24 -/
namespace Go.Proofs.YtpbeaaihdmfnlaaDoor.G
open Go.RowKit Go.Proofs.YtpbeaaihdmfnlaaDoorW.PrintWords Go.Proofs.YtpbeaaihdmfnlaaDoorW.PrintLast Go.Proofs.YtpbeaaihdmfnlaaDoorW.PrintMore
attribute [local go_sem] max2_int min2_int max_two min_two max_three min_three max_four min_four   -- for this text's walks alone
set_option linter.unusedVariables false
set_option linter.unusedSimpArgs false
mutual
def numnahref06_Chains.l0 : Nat → List Int → Int → List (List Int) → List Int → Int → Option ((List (List Int)))
  | 0, _, _, _, _, _ => none
  | k + 1, x0, x1, x5, x6, x7 => if x7 < (x6.length : Int) then (if 0 ≤ x7 then (if x5.length < 5864062014805 then (numnahref06_Chains.l0 k x0 x1 (x5 ++ [(([rd x6 x7] : List Int))]) x6 (wrap64 (x7 + 1))) else (none)) else (none)) else (numnahref06_Chains.l1 k x0 x1 x5)
def numnahref06_Chains.l1 : Nat → List Int → Int → List (List Int) → Option ((List (List Int)))
  | 0, _, _, _ => none
  | k + 1, x0, x1, x5 => (numnahref06_All.f x0).bind fun t800 => (if x1 = t800 then (some x5) else (numnahref06_Chains.l2 k x0 x1 x5 0))
def numnahref06_Chains.l2 : Nat → List Int → Int → List (List Int) → Int → Option ((List (List Int)))
  | 0, _, _, _, _ => none
  | k + 1, x0, x1, x5, x8 => if 0 ≤ x8 then (if (Int.tmod (shr .i64 x1 x8) 2) = 0 then (numnahref06_Chains.l2 k x0 x1 x5 (wrap64 (x8 + 1))) else (if x8 < (x0.length : Int) then ((numnahref06_Count.f k (Go.bits .andNot .i64 (rd x0 x8) x1)).bind fun t802 => (if t802 = 1 then ((numnahref06_List.f k (Go.bits .andNot .i64 (rd x0 x8) x1)).bind fun t804 => (if 0 < (t804.length : Int) then (if 0 ≤ (rd t804 0) then (numnahref06_Chains.l3 k x0 (Go.bits .or .i64 x1 (shl .i64 1 (rd t804 0))) x5 x8 (rd t804 0) 0) else (none)) else (none))) else (numnahref06_Chains.l2 k x0 x1 x5 (wrap64 (x8 + 1))))) else (none))) else (none)
def numnahref06_Chains.l3 : Nat → List Int → Int → List (List Int) → Int → Int → Int → Option ((List (List Int)))
  | 0, _, _, _, _, _, _ => none
  | k + 1, x0, x1, x5, x8, x9, x10 => if x10 < (x5.length : Int) then (if 0 ≤ x10 then (if 0 ≤ (wrap64 (((rd_L3 x5 x10).length : Int) - 1)) then (if (wrap64 (((rd_L3 x5 x10).length : Int) - 1)) < ((rd_L3 x5 x10).length : Int) then (if (rd (rd_L3 x5 x10) (wrap64 (((rd_L3 x5 x10).length : Int) - 1))) = x8 then (if (rd_L3 x5 x10).length < 17592186044416 then (numnahref06_Chains.l3 k x0 x1 (x5.set (x10 : Int).toNat ((rd_L3 x5 x10) ++ [x9])) x8 x9 (wrap64 (x10 + 1))) else (none)) else (numnahref06_Chains.l3 k x0 x1 x5 x8 x9 (wrap64 (x10 + 1)))) else (none)) else (none)) else (none)) else (numnahref06_Chains.l1 k x0 x1 x5)
end
def numnahref06_Chains.f (k : Nat) (l0 : List Int) (a1 : Int) : Option ((List (List Int))) := (numnahref06_List.f k a1).bind fun t790 => (numnahref06_Chains.l0 k l0 a1 ([] : List (List Int)) t790 0)
theorem numnahref06_Chains.mono_l : ∀ k, (∀ y0 y1 y2 y3 y4, LeO (numnahref06_Chains.l0 k y0 y1 y2 y3 y4) (numnahref06_Chains.l0 (k + 1) y0 y1 y2 y3 y4)) ∧ (∀ y0 y1 y2, LeO (numnahref06_Chains.l1 k y0 y1 y2) (numnahref06_Chains.l1 (k + 1) y0 y1 y2)) ∧ (∀ y0 y1 y2 y3, LeO (numnahref06_Chains.l2 k y0 y1 y2 y3) (numnahref06_Chains.l2 (k + 1) y0 y1 y2 y3)) ∧ (∀ y0 y1 y2 y3 y4 y5, LeO (numnahref06_Chains.l3 k y0 y1 y2 y3 y4 y5) (numnahref06_Chains.l3 (k + 1) y0 y1 y2 y3 y4 y5))
  | 0 => ⟨fun _ _ _ _ _ r h => by simp [numnahref06_Chains.l0] at h, fun _ _ _ r h => by simp [numnahref06_Chains.l1] at h, fun _ _ _ _ r h => by simp [numnahref06_Chains.l2] at h, fun _ _ _ _ _ _ r h => by simp [numnahref06_Chains.l3] at h⟩
  | k + 1 => by
    obtain ⟨ih0, ih1, ih2, ih3⟩ := numnahref06_Chains.mono_l k
    refine ⟨?_, ?_, ?_, ?_⟩
    · intro y0 y1 y2 y3 y4
      unfold numnahref06_Chains.l0
      repeat' first
      | (with_reducible exact ih0 _ _ _ _ _)
      | (with_reducible exact ih1 _ _ _)
      | (with_reducible exact ih2 _ _ _ _)
      | (with_reducible exact ih3 _ _ _ _ _ _)
      | (with_reducible exact numnahref06_Count.mono _ _)
      | (with_reducible exact numnahref06_List.mono _ _)
      | (with_reducible exact LeO.refl _)
      | (with_reducible exact LeO.none _)
      | (with_reducible refine LeO.ite ?_ ?_)
      | (with_reducible refine LeO.bind ?_ (fun _ => ?_))
      | exact ih0 _ _ _ _ _
      | exact ih1 _ _ _
      | exact ih2 _ _ _ _
      | exact ih3 _ _ _ _ _ _
      | exact numnahref06_Count.mono _ _
      | exact numnahref06_List.mono _ _
      | exact LeO.none _
      | refine LeO.ite ?_ ?_
      | refine LeO.bind ?_ (fun _ => ?_)
    · intro y0 y1 y2
      unfold numnahref06_Chains.l1
      repeat' first
      | (with_reducible exact ih0 _ _ _ _ _)
      | (with_reducible exact ih1 _ _ _)
      | (with_reducible exact ih2 _ _ _ _)
      | (with_reducible exact ih3 _ _ _ _ _ _)
      | (with_reducible exact numnahref06_Count.mono _ _)
      | (with_reducible exact numnahref06_List.mono _ _)
      | (with_reducible exact LeO.refl _)
      | (with_reducible exact LeO.none _)
      | (with_reducible refine LeO.ite ?_ ?_)
      | (with_reducible refine LeO.bind ?_ (fun _ => ?_))
      | exact ih0 _ _ _ _ _
      | exact ih1 _ _ _
      | exact ih2 _ _ _ _
      | exact ih3 _ _ _ _ _ _
      | exact numnahref06_Count.mono _ _
      | exact numnahref06_List.mono _ _
      | exact LeO.none _
      | refine LeO.ite ?_ ?_
      | refine LeO.bind ?_ (fun _ => ?_)
    · intro y0 y1 y2 y3
      unfold numnahref06_Chains.l2
      repeat' first
      | (with_reducible exact ih0 _ _ _ _ _)
      | (with_reducible exact ih1 _ _ _)
      | (with_reducible exact ih2 _ _ _ _)
      | (with_reducible exact ih3 _ _ _ _ _ _)
      | (with_reducible exact numnahref06_Count.mono _ _)
      | (with_reducible exact numnahref06_List.mono _ _)
      | (with_reducible exact LeO.refl _)
      | (with_reducible exact LeO.none _)
      | (with_reducible refine LeO.ite ?_ ?_)
      | (with_reducible refine LeO.bind ?_ (fun _ => ?_))
      | exact ih0 _ _ _ _ _
      | exact ih1 _ _ _
      | exact ih2 _ _ _ _
      | exact ih3 _ _ _ _ _ _
      | exact numnahref06_Count.mono _ _
      | exact numnahref06_List.mono _ _
      | exact LeO.none _
      | refine LeO.ite ?_ ?_
      | refine LeO.bind ?_ (fun _ => ?_)
    · intro y0 y1 y2 y3 y4 y5
      unfold numnahref06_Chains.l3
      repeat' first
      | (with_reducible exact ih0 _ _ _ _ _)
      | (with_reducible exact ih1 _ _ _)
      | (with_reducible exact ih2 _ _ _ _)
      | (with_reducible exact ih3 _ _ _ _ _ _)
      | (with_reducible exact numnahref06_Count.mono _ _)
      | (with_reducible exact numnahref06_List.mono _ _)
      | (with_reducible exact LeO.refl _)
      | (with_reducible exact LeO.none _)
      | (with_reducible refine LeO.ite ?_ ?_)
      | (with_reducible refine LeO.bind ?_ (fun _ => ?_))
      | exact ih0 _ _ _ _ _
      | exact ih1 _ _ _
      | exact ih2 _ _ _ _
      | exact ih3 _ _ _ _ _ _
      | exact numnahref06_Count.mono _ _
      | exact numnahref06_List.mono _ _
      | exact LeO.none _
      | refine LeO.ite ?_ ?_
      | refine LeO.bind ?_ (fun _ => ?_)
theorem numnahref06_Chains.mono : ∀ a0 a1 k, LeO (numnahref06_Chains.f k a0 a1) (numnahref06_Chains.f (k + 1) a0 a1) := by
  intro a0 a1 k
  obtain ⟨ih0, ih1, ih2, ih3⟩ := numnahref06_Chains.mono_l k
  unfold numnahref06_Chains.f
  repeat' first
      | (with_reducible exact ih0 _ _ _ _ _)
      | (with_reducible exact ih1 _ _ _)
      | (with_reducible exact ih2 _ _ _ _)
      | (with_reducible exact ih3 _ _ _ _ _ _)
      | (with_reducible exact numnahref06_Count.mono _ _)
      | (with_reducible exact numnahref06_List.mono _ _)
      | (with_reducible exact LeO.refl _)
      | (with_reducible exact LeO.none _)
      | (with_reducible refine LeO.ite ?_ ?_)
      | (with_reducible refine LeO.bind ?_ (fun _ => ?_))
      | exact ih0 _ _ _ _ _
      | exact ih1 _ _ _
      | exact ih2 _ _ _ _
      | exact ih3 _ _ _ _ _ _
      | exact numnahref06_Count.mono _ _
      | exact numnahref06_List.mono _ _
      | exact LeO.none _
      | refine LeO.ite ?_ ?_
      | refine LeO.bind ?_ (fun _ => ?_)
set_option maxHeartbeats 8000000 in
set_option maxRecDepth 100000 in
theorem numnahref06_Chains.calls (k : Nat) (A0 : Option Addr) (c0 : Nat) (l0 : List Int) (a1 : Int) (r : List (List Int)) (w : World) (hr0 : Kd.C (Kd.int .i64) w A0 l0.length l0) (hc0 : l0.length ≤ c0) (h : numnahref06_Chains.f k l0 a1 = some r) :
    Calls Tryd.prog 56 #[.slice A0 l0.length c0, .int .i64 a1] w fun e w' => ∃ v0_ : Value, e = .returned (v0_) ∧ Kd.S (Kd.slice 3 (Kd.int .i64)) 24 w' w.heap.size (fun _ => True) v0_ r ∧ Below w.heap.size w w' := by
  have HR0 := Aside0.mk hr0
  have HC0 := Aside0.mk hc0
  clear hr0 hc0
  have HB := Aside0.mk (Below.refl w.heap.size w)
  have H : ((numnahref06_List.f k a1).bind fun t790 => (numnahref06_Chains.l0 k l0 a1 ([] : List (List Int)) t790 0)) = some r := h
  clear h
  replace H := Option.bind_eq_some_iff.mp H
  obtain ⟨t790, A30, H⟩ := H
  replace H : (numnahref06_Chains.l0 k l0 a1 ([] : List (List Int)) t790 0) = some r := H
  have A3 := Aside0.mk A30
  clear A30
  have H' := Aside0.mk H
  clear H
  go_enter Tryd.func56, Tryd.ntmps56
  go_wp2_with (first | (go_at_call 25; (with_reducible refine (numnahref06_List.calls k a1 t790 _ A3.out).mono ?_); rintro e w4 ⟨v791, rfl, ho0, hb⟩; have n0_ := Aside0.mk (Kd.R_lower ho0 (below_size (by repeat (first | (with_reducible first | exact HB.out | apply below_alloc | apply pw_below_drewN | apply below_drew1) | exact HB.out)))); have n1_ := Aside0.mk (below_step (by repeat (first | (with_reducible first | exact HB.out | apply below_alloc | apply pw_below_drewN | apply below_drew1) | exact HB.out)) hb); clear HB; have HO792 := n0_; have HB := n1_; clear n0_ n1_; (try clear hb); (try clear hb2); (try clear hk); (try clear hi); (try clear ho0)))
  go_loopg [5, 7] k (fun kq v5 v7 w' => ∃ (x5_1 : List (List Int)) (x7_1 : Int), v7 = .int .i64 x7_1 ∧ Aside0 (numnahref06_Chains.l0 kq l0 a1 x5_1 t790 x7_1 = some r) ∧ Aside0 (kq ≤ k) ∧ Aside0 (Kd.S (Kd.slice 3 (Kd.int .i64)) 24 w' w.heap.size (fun k_ => some k_ ≠ (v791 : Value).ownBlock) v5 x5_1) ∧ Aside0 (Kd.R (Kd.int .i64) 3 w' w.heap.size (fun _ => True) v791 t790) ∧ Aside0 (Below w.heap.size w w'))
  case atStart => exact ⟨(([] : List (List Int))), (0), (by first | rfl | (simp; done) | (simp [*]; done)), H', ⟨Nat.le_refl _⟩, ⟨by first | exact Kd.S_nil _ _ _ _ _ | exact Kd.N_nil _ _ _ _ _ | exact Kd.V_nil _ _ _ _ _ | exact Kd.Q_nil _ _ _ _ _ | exact Kd.R_nil _ _ _ _ _⟩, ⟨by (with_reducible repeat (first | apply Kd.R_alloc | apply Kd.R_drewN | apply Kd.R_drew)); exact HO792.out⟩, ⟨by repeat (first | (with_reducible first | exact HB.out | apply below_alloc | apply pw_below_drewN | apply below_drew1) | exact HB.out)⟩⟩
  case round =>
    clear H'
    try clear p2
    obtain ⟨x5_1, x7_1, rfl, HA, HK1, HO_5, HO_6, HB⟩ := hrel
    cases gk with
    | zero => exact absurd HA.out (by simp [numnahref06_Chains.l0])
    | succ k1 =>
      have H := HA.out
      clear HA
      simp only [numnahref06_Chains.l0] at H
      by_cases c5 : x7_1 < (t790.length : Int)
      · rw [if_pos c5] at H
        have c5b0 : decide (x7_1 < (t790.length : Int)) = true := decide_eq_true c5
        clear c5
        by_cases c6 : 0 ≤ x7_1
        · rw [if_pos c6] at H
          have c6b0 : decide (0 ≤ x7_1) = true := decide_eq_true c6
          clear c6
          obtain ⟨y794, hy794⟩ : ∃ y_ : List Int, y_ = (([rd t790 x7_1] : List Int)) := ⟨_, rfl⟩
          replace H : (if x5_1.length < 5864062014805 then (numnahref06_Chains.l0 k1 l0 a1 (x5_1 ++ [y794]) t790 (wrap64 (x7_1 + 1))) else (none)) = some r := by first | (rw [hy794]; with_reducible exact H) | (have H2_ := (Option.bind_some _ _).symm.trans H; rw [hy794]; with_reducible exact H2_) | (have H2_ := (Option.bind_some _ _).symm.trans H; with_reducible exact H2_) | with_reducible exact H | (rw [hy794]; exact H) | exact H
          have Ny794 := Aside0.mk hy794
          clear hy794
          by_cases c7 : x5_1.length < 5864062014805
          · rw [if_pos c7] at H
            have LMc7 := Aside0.mk c7
            clear c7
            obtain ⟨y797, hy797⟩ : ∃ y_ : List (List Int), y_ = (x5_1 ++ [y794]) := ⟨_, rfl⟩
            replace H : (numnahref06_Chains.l0 k1 l0 a1 y797 t790 (wrap64 (x7_1 + 1))) = some r := by first | (rw [hy797]; with_reducible exact H) | (have H2_ := (Option.bind_some _ _).symm.trans H; rw [hy797]; with_reducible exact H2_) | (have H2_ := (Option.bind_some _ _).symm.trans H; with_reducible exact H2_) | with_reducible exact H | (rw [hy797]; exact H) | exact H
            have Ny797 := Aside0.mk hy797
            clear hy797
            have H' := Aside0.mk H
            clear H
            obtain ⟨Ao8, co8, eo8⟩ := Kd.R_slice HO_6.out
            subst eo8
            have p793 : 0 ≤ (x7_1 : Int) := of_decide_eq_true (by first | (with_reducible assumption) | assumption)
            have q793 : x7_1 < (t790.length : Int) := of_decide_eq_true (by first | (with_reducible assumption) | assumption)
            obtain ⟨ad793, e793, hx793_0⟩ := Kd.at_int (Kd.R_reads' HO_6.out).2.2 x7_1 p793 q793
            cases e793
            replace p793 := eq_true p793
            replace q793 := eq_true q793
            go_wp2_with (first | ((with_reducible refine gate_dst (N := 24) rfl ?_); refine Kd.R_lit (Kd.int .i64) _ 3 ?hg (N := 24) ?hd (xs := ([rd t790 x7_1] : List Int)) (inner := [.int .i64 (rd t790 x7_1)]) (ok := fun _ => True) (okp := fun _ => True) ?hr ?hp (fun _ hk => hk) trivial (Below.refl _ _) (Nat.le_refl _) (by simp) ?_; (case hd => rfl); (case hg => rfl); (case hr => first | (go_simp; done) | (go_simp; rfl)); (case hp => exact (Reps.one (show Kd.M (Kd.int .i64) _ _ _ (rd t790 x7_1) [.int .i64 (rd t790 x7_1)] from rfl) (Reps.none _ _))); intro v795 w9 ho10 hb hg_ hnew_; clear hg_ hnew_; (first | rw [← Ny794.out] at ho10 | (simp only [Int.reduceToNat] at ho10; rw [← Ny794.out] at ho10)); have n0_ := Aside0.mk (Kd.S_elder' (by (with_reducible repeat (first | apply Kd.S_alloc | apply Kd.S_drewN | apply Kd.S_drew)); exact HO_5.out) (Kd.R_base ho10) hb); have n1_ := Aside0.mk (Kd.R_elder' (by (with_reducible repeat (first | apply Kd.R_alloc | apply Kd.R_drewN | apply Kd.R_drew)); exact HO_6.out) (Kd.R_base ho10) hb); have n2_ := Aside0.mk (Kd.R_lower (Kd.R_new' ho10 (Kd.R_lt (by (with_reducible repeat (first | apply Kd.R_alloc | apply Kd.R_drewN | apply Kd.R_drew)); exact HO_6.out))) (below_size (by repeat (first | (with_reducible first | exact HB.out | apply below_alloc | apply pw_below_drewN | apply below_drew1) | exact HB.out)))); have n3_ := Aside0.mk (below_step (by repeat (first | (with_reducible first | exact HB.out | apply below_alloc | apply pw_below_drewN | apply below_drew1) | exact HB.out)) hb); clear HO_5; clear HO_6; clear HB; have HO_5 := n0_; have HO_6 := n1_; have HO796 := n2_; have HB := n3_; clear n0_ n1_ n2_ n3_; clear hb ho10; obtain ⟨Ao12, co12, eo12⟩ := Kd.R_slice HO796.out; subst eo12) | ((with_reducible refine gate_builtin (b := .append) (xs := #[.tmp 19, .tmp 25]) rfl ?_); at_builtin; refine Kd.S_append (Kd.slice 3 (Kd.int .i64)) (w0 := w) w.heap.size rfl (.tmp 19) (.tmp 25) 28 24 (.slice none 0 0) 24 rfl Tryd.underlying28 info24 rfl (by decide) (by omega) u5 x5_1 y794 [.slice Ao12 y794.length co12] (fun k_ => some k_ ≠ (.slice (some ad793) t790.length co8 : Value).ownBlock) (fun k_ => some k_ = (.slice Ao12 y794.length co12 : Value).ownBlock) rfl rfl ?aP (fun k_ hk_ => ((Kd.R_mono (ok' := fun k_ => ((fun k_ => some k_ ≠ (.slice (some ad793) t790.length co8 : Value).ownBlock)) k_ ∧ some k_ ≠ (u5 : Value).ownBlock) (Kd.R_apart' (HO796.out) (Kd.S_typed HO_5.out) (by decide)) (fun k_ hk => ⟨hk.1.2, hk.2⟩))).1 k_ hk_.symm) ?aF ?aO ?aB ?aS ?aL ?_; (case aP => exact Kd.M_row (Kd.R_mono (Kd.R_tight rfl (Kd.R_mono (ok' := fun k_ => ((fun k_ => some k_ ≠ (.slice (some ad793) t790.length co8 : Value).ownBlock)) k_ ∧ some k_ ≠ (u5 : Value).ownBlock) (Kd.R_apart' (HO796.out) (Kd.S_typed HO_5.out) (by decide)) (fun k_ hk => ⟨hk.1.2, hk.2⟩))) (fun _ h_ => h_))); (case aB => exact (by repeat (first | (with_reducible first | exact HB.out | apply below_alloc | apply pw_below_drewN | apply below_drew1) | exact HB.out))); (case aF => exact (fun k_ hk => Kd.fresh' (Kd.R_lt (by (with_reducible repeat (first | apply Kd.R_alloc | apply Kd.R_drewN | apply Kd.R_drew)); exact HO_6.out)) k_ hk)); (case aO => exact (by (with_reducible repeat (first | apply Kd.S_alloc | apply Kd.S_drewN | apply Kd.S_drew)); exact Kd.S_mono HO_5.out (fun k_ hk => ⟨hk.1, fun e_ => hk.2 e_⟩))); (case aS => exact (below_size (by repeat (first | (with_reducible first | exact HB.out | apply below_alloc | apply pw_below_drewN | apply below_drew1) | exact HB.out)))); (case aL => have := LMc7.out; omega); intro v798 w11 ho hb hg hat; rw [← Ny797.out] at ho; have n0_ := Aside0.mk (Kd.R_over' (by (with_reducible repeat (first | apply Kd.R_alloc | apply Kd.R_drewN | apply Kd.R_drew)); exact HO_6.out) (Kd.S_typed (by (with_reducible repeat (first | apply Kd.S_alloc | apply Kd.S_drewN | apply Kd.S_drew)); exact HO_5.out)) (by decide) hg); have n1_ := Aside0.mk (hb); have n2_ := Aside0.mk (ho); clear HO_6; clear HB; clear HO_5; clear HO796; have HO_6 := n0_; have HB := n1_; have HO799 := n2_; clear n0_ n1_ n2_; clear ho hb hg hat))
            go_roundg k1
            case measure => have := HK1.out; omega
            case rel => exact ⟨(y797), (wrap64 (x7_1 + 1)), (by first | rfl | (simp; done) | (simp [*]; done)), H', ⟨by have := HK1.out; omega⟩, ⟨by (with_reducible repeat (first | apply Kd.S_alloc | apply Kd.S_drewN | apply Kd.S_drew)); exact HO799.out⟩, ⟨by (with_reducible repeat (first | apply Kd.R_alloc | apply Kd.R_drewN | apply Kd.R_drew)); exact Kd.R_mono HO_6.out (fun _ hk => trivial)⟩, ⟨by repeat (first | (with_reducible first | exact HB.out | apply below_alloc | apply pw_below_drewN | apply below_drew1) | exact HB.out)⟩⟩
          · rw [if_neg c7] at H
            exact absurd H (by simp)
        · rw [if_neg c6] at H
          exact absurd H (by simp)
      · rw [if_neg c5] at H
        have c5b0 : decide (x7_1 < (t790.length : Int)) = false := decide_eq_false c5
        clear c5
        have H' := Aside0.mk H
        clear H
        obtain ⟨Ao13, co13, eo13⟩ := Kd.R_slice HO_6.out
        subst eo13
        go_wp2
        go_loopg [1] k1 (fun kq v1 w' => ∃ (x1_2 : Int) (x5_2 : List (List Int)), v1 = .int .i64 x1_2 ∧ Aside0 (numnahref06_Chains.l1 kq l0 x1_2 x5_2 = some r) ∧ Aside0 (kq ≤ k1) ∧ Aside0 (Kd.S (Kd.slice 3 (Kd.int .i64)) 24 w' w.heap.size (fun _ => True) u5 x5_2) ∧ Aside0 (Below w.heap.size w w'))
        case atStart => exact ⟨(a1), (x5_1), (by first | rfl | (simp; done) | (simp [*]; done)), H', ⟨Nat.le_refl _⟩, ⟨by (with_reducible repeat (first | apply Kd.S_alloc | apply Kd.S_drewN | apply Kd.S_drew)); exact Kd.S_mono HO_5.out (fun _ hk => trivial)⟩, ⟨by repeat (first | (with_reducible first | exact HB.out | apply below_alloc | apply pw_below_drewN | apply below_drew1) | exact HB.out)⟩⟩
        case round =>
          clear H'
          try clear p2
          try clear c5
          try clear c5b0
          try clear c6
          try clear c6b0
          try clear p6
          try clear c7
          try clear p7
          try clear q7
          try clear hx7
          try clear hx793_0
          try clear p2
          try clear p793
          try clear q793
          obtain ⟨x1_2, x5_2, rfl, HA, HK2, HO_5, HB⟩ := hrel
          cases gk with
          | zero => exact absurd HA.out (by simp [numnahref06_Chains.l1])
          | succ k2 =>
            have H := HA.out
            clear HA
            simp only [numnahref06_Chains.l1] at H
            replace H := Option.bind_eq_some_iff.mp H
            obtain ⟨t800, A140, H⟩ := H
            replace H : (if x1_2 = t800 then (some x5_2) else (numnahref06_Chains.l2 k2 l0 x1_2 x5_2 0)) = some r := H
            have A14 := Aside0.mk A140
            clear A140
            by_cases c15 : x1_2 = t800
            · rw [if_pos c15] at H
              have c15b0 : (x1_2 == t800) = true := beq_iff_eq.mpr c15
              have c15b1 : (x1_2 != t800) = false := bne_eq_false_iff_eq.mpr c15
              clear c15
              obtain rfl := Option.some.inj H
              go_wp2_with (first | (go_at_call 47; (with_reducible refine (numnahref06_All.calls _ _ l0 t800 _ ?side1 ?side2 A14.out).mono ?_); (case side1 => repeat (first | exact (Kd.C_below HR0.out HB.out) | (with_reducible refine Kd.C_alloc ?_ _) | (with_reducible refine Kd.C_drewN ?_ _) | (with_reducible refine Kd.C_drew ?_))); (case side2 => exact HC0.out); rintro e w' ⟨rfl, ⟨nd, rfl⟩⟩; (try first | exact ⟨rfl, _, World.drewN_drewN _ _ _⟩ | exact ⟨rfl, _, Eq.trans (World.drewN_drewN _ _ _) (congrArg (World.drewN _) (Nat.add_assoc _ _ _))⟩)))
              go_ret
              exact ⟨_, by first | rfl | (simp [errW_none, errW_some] <;> rfl) | (simp [*, errW_none, errW_some] <;> rfl), by (with_reducible repeat (first | apply Kd.S_alloc | apply Kd.S_drewN | apply Kd.S_drew)); exact HO_5.out, by repeat (first | (with_reducible first | exact HB.out | apply below_alloc | apply pw_below_drewN | apply below_drew1) | exact HB.out)⟩
            · rw [if_neg c15] at H
              have c15b0 : (x1_2 == t800) = false := beq_eq_false_iff_ne.mpr c15
              have c15b1 : (x1_2 != t800) = true := bne_iff_ne.mpr c15
              have H' := Aside0.mk H
              clear H
              go_wp2_with (first | (go_at_call 47; (with_reducible refine (numnahref06_All.calls _ _ l0 t800 _ ?side1 ?side2 A14.out).mono ?_); (case side1 => repeat (first | exact (Kd.C_below HR0.out HB.out) | (with_reducible refine Kd.C_alloc ?_ _) | (with_reducible refine Kd.C_drewN ?_ _) | (with_reducible refine Kd.C_drew ?_))); (case side2 => exact HC0.out); rintro e w' ⟨rfl, ⟨nd, rfl⟩⟩; (try first | exact ⟨rfl, _, World.drewN_drewN _ _ _⟩ | exact ⟨rfl, _, Eq.trans (World.drewN_drewN _ _ _) (congrArg (World.drewN _) (Nat.add_assoc _ _ _))⟩)))
              go_loopg [8] k2 (fun kq v8 w' => ∃ (x8_3 : Int), v8 = .int .i64 x8_3 ∧ Aside0 (numnahref06_Chains.l2 kq l0 x1_2 x5_2 x8_3 = some r) ∧ Aside0 (kq ≤ k2) ∧ Aside0 (Kd.S (Kd.slice 3 (Kd.int .i64)) 24 w' w.heap.size (fun _ => True) u5 x5_2) ∧ Aside0 (Below w.heap.size w w'))
              case atStart => exact ⟨(0), (by first | rfl | (simp; done) | (simp [*]; done)), H', ⟨Nat.le_refl _⟩, ⟨by (with_reducible repeat (first | apply Kd.S_alloc | apply Kd.S_drewN | apply Kd.S_drew)); exact HO_5.out⟩, ⟨by repeat (first | (with_reducible first | exact HB.out | apply below_alloc | apply pw_below_drewN | apply below_drew1) | exact HB.out)⟩⟩
              case round =>
                clear H'
                try clear c1
                try clear p2
                try clear c5
                try clear c5b0
                try clear c6
                try clear c6b0
                try clear p6
                try clear c7
                try clear p7
                try clear q7
                try clear hx7
                try clear c15
                try clear c15b0
                try clear c15b1
                try clear hx793_0
                try clear p2
                try clear p6
                try clear p7
                try clear p793
                try clear q7
                try clear q793
                obtain ⟨x8_3, rfl, HA, HK3, HO_5, HB⟩ := hrel
                cases gk with
                | zero => exact absurd HA.out (by simp [numnahref06_Chains.l2])
                | succ k3 =>
                  have H := HA.out
                  clear HA
                  simp only [numnahref06_Chains.l2] at H
                  by_cases c16 : 0 ≤ x8_3
                  · rw [if_pos c16] at H
                    have c16b0 := eq_true c16
                    have c16b1 : decide (0 ≤ x8_3) = true := decide_eq_true c16
                    clear c16
                    obtain ⟨ji17, hji17⟩ : ∃ j_ : Int, (shr .i64 x1_2 x8_3) = j_ := ⟨_, rfl⟩
                    replace H : (if (Int.tmod (ji17) 2) = 0 then (numnahref06_Chains.l2 k3 l0 x1_2 x5_2 (wrap64 (x8_3 + 1))) else (if x8_3 < (l0.length : Int) then ((numnahref06_Count.f k3 (Go.bits .andNot .i64 (rd l0 x8_3) x1_2)).bind fun t802 => (if t802 = 1 then ((numnahref06_List.f k3 (Go.bits .andNot .i64 (rd l0 x8_3) x1_2)).bind fun t804 => (if 0 < (t804.length : Int) then (if 0 ≤ (rd t804 0) then (numnahref06_Chains.l3 k3 l0 (Go.bits .or .i64 x1_2 (shl .i64 1 (rd t804 0))) x5_2 x8_3 (rd t804 0) 0) else (none)) else (none))) else (numnahref06_Chains.l2 k3 l0 x1_2 x5_2 (wrap64 (x8_3 + 1))))) else (none))) = some r := by first | (rw [hji17] at H; exact H) | (simp only [hji17] at H ⊢; exact H)
                    have hji17_ : (x1_2 / 2 ^ min x8_3.toNat 64) = ji17 := hji17
                    have hji17z : x8_3 ≤ 64 → (x1_2 / 2 ^ x8_3.toNat) = ji17 := shr_small hji17
                    by_cases c18 : (Int.tmod (ji17) 2) = 0
                    · rw [if_pos c18] at H
                      have c18b0 : ((Int.tmod (ji17) 2) == 0) = true := beq_iff_eq.mpr c18
                      have c18b1 : ((Int.tmod (ji17) 2) != 0) = false := bne_eq_false_iff_eq.mpr c18
                      clear c18
                      have H' := Aside0.mk H
                      clear H
                      go_wp2
                      go_roundg k3
                      case measure => have := HK1.out; have := HK2.out; have := HK3.out; omega
                      case rel => exact ⟨(wrap64 (x8_3 + 1)), (by first | rfl | (simp; done) | (simp [*]; done)), H', ⟨by have := HK1.out; have := HK2.out; have := HK3.out; omega⟩, ⟨by (with_reducible repeat (first | apply Kd.S_alloc | apply Kd.S_drewN | apply Kd.S_drew)); exact HO_5.out⟩, ⟨by repeat (first | (with_reducible first | exact HB.out | apply below_alloc | apply pw_below_drewN | apply below_drew1) | exact HB.out)⟩⟩
                    · rw [if_neg c18] at H
                      have c18b0 : ((Int.tmod (ji17) 2) == 0) = false := beq_eq_false_iff_ne.mpr c18
                      have c18b1 : ((Int.tmod (ji17) 2) != 0) = true := bne_iff_ne.mpr c18
                      by_cases c19 : x8_3 < (l0.length : Int)
                      · rw [if_pos c19] at H
                        have c19b0 : decide (x8_3 < (l0.length : Int)) = true := decide_eq_true c19
                        clear c19
                        replace H := Option.bind_eq_some_iff.mp H
                        obtain ⟨t802, A200, H⟩ := H
                        replace H : (if t802 = 1 then ((numnahref06_List.f k3 (Go.bits .andNot .i64 (rd l0 x8_3) x1_2)).bind fun t804 => (if 0 < (t804.length : Int) then (if 0 ≤ (rd t804 0) then (numnahref06_Chains.l3 k3 l0 (Go.bits .or .i64 x1_2 (shl .i64 1 (rd t804 0))) x5_2 x8_3 (rd t804 0) 0) else (none)) else (none))) else (numnahref06_Chains.l2 k3 l0 x1_2 x5_2 (wrap64 (x8_3 + 1)))) = some r := H
                        have A20 := Aside0.mk A200
                        clear A200
                        by_cases c21 : t802 = 1
                        · rw [if_pos c21] at H
                          have c21b0 : (t802 == 1) = true := beq_iff_eq.mpr c21
                          have c21b1 : (t802 != 1) = false := bne_eq_false_iff_eq.mpr c21
                          clear c21
                          replace H := Option.bind_eq_some_iff.mp H
                          obtain ⟨t804, A220, H⟩ := H
                          replace H : (if 0 < (t804.length : Int) then (if 0 ≤ (rd t804 0) then (numnahref06_Chains.l3 k3 l0 (Go.bits .or .i64 x1_2 (shl .i64 1 (rd t804 0))) x5_2 x8_3 (rd t804 0) 0) else (none)) else (none)) = some r := H
                          have A22 := Aside0.mk A220
                          clear A220
                          by_cases c23 : 0 < (t804.length : Int)
                          · rw [if_pos c23] at H
                            have c23b0 : decide (0 < (t804.length : Int)) = true := decide_eq_true c23
                            have c23b1 : decide (0 < t804.length) = true := decide_eq_true (by omega)
                            clear c23
                            by_cases c24 : 0 ≤ (rd t804 0)
                            · rw [if_pos c24] at H
                              have c24b0 := eq_true c24
                              have c24b1 : decide (0 ≤ (rd t804 0)) = true := decide_eq_true c24
                              clear c24
                              obtain ⟨ji25, hji25⟩ : ∃ j_ : Int, (shl .i64 1 (rd t804 0)) = j_ := ⟨_, rfl⟩
                              replace H : (numnahref06_Chains.l3 k3 l0 (Go.bits .or .i64 x1_2 (ji25)) x5_2 x8_3 (rd t804 0) 0) = some r := by first | (rw [hji25] at H; exact H) | (simp only [hji25] at H ⊢; exact H)
                              (try rw [hji25] at A20)
                              (try rw [hji25] at A22)
                              have hji25_ : (IntKind.i64.wrap (1 * 2 ^ min (rd t804 0).toNat 64)) = ji25 := hji25
                              have hji25z : (rd t804 0) ≤ 64 → (IntKind.i64.wrap (1 * 2 ^ (rd t804 0).toNat)) = ji25 := shl_small hji25
                              have hji25u : (IntKind.i64.wrap (2 ^ min (rd t804 0).toNat 64)) = ji25 := by have h_ := hji25_; rw [Int.one_mul] at h_; exact h_
                              have hji25v : (rd t804 0) ≤ 64 → (IntKind.i64.wrap (2 ^ (rd t804 0).toNat)) = ji25 := fun hle_ => by have h_ := hji25z hle_; rw [Int.one_mul] at h_; exact h_
                              have hji25y : (wrap64 (1 * 2 ^ min (rd t804 0).toNat 64)) = ji25 := (i64_w _).symm.trans hji25_
                              have hji25x : (rd t804 0) ≤ 64 → (wrap64 (1 * 2 ^ (rd t804 0).toNat)) = ji25 := fun h_ => (i64_w _).symm.trans (hji25z h_)
                              have H' := Aside0.mk H
                              clear H
                              have p801 : 0 ≤ (x8_3 : Int) := of_decide_eq_true (by first | (with_reducible assumption) | assumption)
                              have q801 : x8_3 < (l0.length : Int) := of_decide_eq_true (by first | (with_reducible assumption) | assumption)
                              obtain ⟨ad801, e801, hx801_0⟩ := Kd.at_int HR0.out x8_3 p801 q801
                              cases e801
                              replace hx801_0 := (HB.out.cell (World.block_lt_of_cell? w _ hx801_0)).trans hx801_0
                              replace p801 := eq_true p801
                              replace q801 := eq_true q801
                              go_wp2_with (first | (go_at_call 41; (with_reducible refine (numnahref06_Count.calls k3 (Go.bits .andNot .i64 (rd l0 x8_3) x1_2) t802 _ A20.out).mono ?_); rintro e w26 ⟨rfl, hb⟩; have n0_ := Aside0.mk (Kd.S_below (by (with_reducible repeat (first | apply Kd.S_alloc | apply Kd.S_drewN | apply Kd.S_drew)); exact HO_5.out) hb); have n1_ := Aside0.mk (below_step (by repeat (first | (with_reducible first | exact HB.out | apply below_alloc | apply pw_below_drewN | apply below_drew1) | exact HB.out)) hb); clear HO_5; clear HB; have HO_5 := n0_; have HB := n1_; clear n0_ n1_; (try clear hb); (try clear hb2); (try clear hk); (try clear hi); have p803 : 0 ≤ (x8_3 : Int) := of_decide_eq_true (by first | (with_reducible assumption) | assumption); have q803 : x8_3 < (l0.length : Int) := of_decide_eq_true (by first | (with_reducible assumption) | assumption); obtain ⟨ad803, e803, hx803_0⟩ := Kd.at_int HR0.out x8_3 p803 q803; obtain rfl : ad801 = ad803 := (by injection e803); replace hx803_0 := (HB.out.cell (World.block_lt_of_cell? w _ hx803_0)).trans hx803_0; replace p803 := eq_true p803; replace q803 := eq_true q803) | (go_at_call 25; (with_reducible refine (numnahref06_List.calls k3 (Go.bits .andNot .i64 (rd l0 x8_3) x1_2) t804 _ A22.out).mono ?_); rintro e w27 ⟨v805, rfl, ho0, hb⟩; have n0_ := Aside0.mk (Kd.S_elder' (by (with_reducible repeat (first | apply Kd.S_alloc | apply Kd.S_drewN | apply Kd.S_drew)); exact HO_5.out) (Kd.R_base ho0) hb); have n1_ := Aside0.mk (Kd.R_lower ho0 (below_size (by repeat (first | (with_reducible first | exact HB.out | apply below_alloc | apply pw_below_drewN | apply below_drew1) | exact HB.out)))); have n2_ := Aside0.mk (below_step (by repeat (first | (with_reducible first | exact HB.out | apply below_alloc | apply pw_below_drewN | apply below_drew1) | exact HB.out)) hb); clear HO_5; clear HB; have HO_5 := n0_; have HO806 := n1_; have HB := n2_; clear n0_ n1_ n2_; (try clear hb); (try clear hb2); (try clear hk); (try clear hi); (try clear ho0); obtain ⟨Ao28, co28, eo28⟩ := Kd.R_slice HO806.out; subst eo28; have p807 : 0 ≤ (0 : Int) := (by omega); have q807 : 0 < (t804.length : Int) := of_decide_eq_true (by first | (with_reducible assumption) | assumption); obtain ⟨ad807, e807, hx807_0⟩ := Kd.at_int (Kd.R_reads' HO806.out).2.2 0 p807 q807; cases e807; have qi807 : (0 < t804.length) = True := eq_true (by omega); (try rw [show ((0 : Int)).toNat = 0 from rfl] at hx807_0); (try rw [Addr.add_zero'] at hx807_0); replace p807 := eq_true p807; replace q807 := eq_true q807))
                              go_loopg [10] k3 (fun kq v10 w' => ∃ (x5_4 : List (List Int)) (x10_4 : Int), v10 = .int .i64 x10_4 ∧ Aside0 (numnahref06_Chains.l3 kq l0 (Go.bits .or .i64 x1_2 (ji25)) x5_4 x8_3 (rd t804 0) x10_4 = some r) ∧ Aside0 (kq ≤ k3) ∧ Aside0 (Kd.S (Kd.slice 3 (Kd.int .i64)) 24 w' w.heap.size (fun _ => True) u5 x5_4) ∧ Aside0 (Below w.heap.size w w'))
                              case atStart => exact ⟨(x5_2), (0), (by first | rfl | (simp; done) | (simp [*]; done)), H', ⟨Nat.le_refl _⟩, ⟨by (with_reducible repeat (first | apply Kd.S_alloc | apply Kd.S_drewN | apply Kd.S_drew)); exact Kd.S_mono HO_5.out (fun _ hk => trivial)⟩, ⟨by repeat (first | (with_reducible first | exact HB.out | apply below_alloc | apply pw_below_drewN | apply below_drew1) | exact HB.out)⟩⟩
                              case round =>
                                clear H'
                                try clear c1
                                try clear c2
                                try clear p2
                                try clear c5
                                try clear c5b0
                                try clear c6
                                try clear c6b0
                                try clear p6
                                try clear c7
                                try clear p7
                                try clear q7
                                try clear hx7
                                try clear p8
                                try clear q8
                                try clear hx8
                                try clear qi8
                                try clear c15
                                try clear c15b0
                                try clear c15b1
                                try clear c16
                                try clear c16b0
                                try clear c16b1
                                try clear c18
                                try clear c18b0
                                try clear c18b1
                                try clear c19
                                try clear c19b0
                                try clear c21
                                try clear c21b0
                                try clear c21b1
                                try clear c23
                                try clear c23b0
                                try clear c23b1
                                try clear c24
                                try clear c24b0
                                try clear c24b1
                                try clear hx793_0
                                try clear hx801_0
                                try clear hx803_0
                                try clear hx807_0
                                try clear p2
                                try clear p6
                                try clear p7
                                try clear p793
                                try clear p801
                                try clear p803
                                try clear p807
                                try clear q7
                                try clear q793
                                try clear q801
                                try clear q803
                                try clear q807
                                obtain ⟨x5_4, x10_4, rfl, HA, HK4, HO_5, HB⟩ := hrel
                                cases gk with
                                | zero => exact absurd HA.out (by simp [numnahref06_Chains.l3])
                                | succ k4 =>
                                  have H := HA.out
                                  clear HA
                                  simp only [numnahref06_Chains.l3] at H
                                  by_cases c29 : x10_4 < (x5_4.length : Int)
                                  · rw [if_pos c29] at H
                                    have c29b0 : decide (x10_4 < (x5_4.length : Int)) = true := decide_eq_true c29
                                    clear c29
                                    by_cases c30 : 0 ≤ x10_4
                                    · rw [if_pos c30] at H
                                      have c30b0 : decide (0 ≤ x10_4) = true := decide_eq_true c30
                                      clear c30
                                      obtain ⟨ji31, hji31⟩ : ∃ j_ : Int, (wrap64 (((rd_L3 x5_4 x10_4).length : Int) - 1)) = j_ := ⟨_, rfl⟩
                                      replace H : (if 0 ≤ (ji31) then (if (ji31) < ((rd_L3 x5_4 x10_4).length : Int) then (if (rd (rd_L3 x5_4 x10_4) (ji31)) = x8_3 then (if (rd_L3 x5_4 x10_4).length < 17592186044416 then (numnahref06_Chains.l3 k4 l0 (Go.bits .or .i64 x1_2 (ji25)) (x5_4.set (x10_4 : Int).toNat ((rd_L3 x5_4 x10_4) ++ [(rd t804 0)])) x8_3 (rd t804 0) (wrap64 (x10_4 + 1))) else (none)) else (numnahref06_Chains.l3 k4 l0 (Go.bits .or .i64 x1_2 (ji25)) x5_4 x8_3 (rd t804 0) (wrap64 (x10_4 + 1)))) else (none)) else (none)) = some r := by first | (rw [hji31] at H; exact H) | (simp only [hji31] at H ⊢; exact H)
                                      have hji31w : (IntKind.i64.wrap (((rd_L3 x5_4 x10_4).length : Int) - 1)) = ji31 := (i64_w _).trans hji31
                                      by_cases c32 : 0 ≤ (ji31)
                                      · rw [if_pos c32] at H
                                        have c32b0 : decide (0 ≤ (ji31)) = true := decide_eq_true c32
                                        clear c32
                                        by_cases c33 : (ji31) < ((rd_L3 x5_4 x10_4).length : Int)
                                        · rw [if_pos c33] at H
                                          have c33b0 : decide ((ji31) < ((rd_L3 x5_4 x10_4).length : Int)) = true := decide_eq_true c33
                                          clear c33
                                          by_cases c34 : (rd (rd_L3 x5_4 x10_4) (ji31)) = x8_3
                                          · rw [if_pos c34] at H
                                            have c34b0 : ((rd (rd_L3 x5_4 x10_4) (ji31)) == x8_3) = true := beq_iff_eq.mpr c34
                                            have c34b1 : ((rd (rd_L3 x5_4 x10_4) (ji31)) != x8_3) = false := bne_eq_false_iff_eq.mpr c34
                                            clear c34
                                            by_cases c35 : (rd_L3 x5_4 x10_4).length < 17592186044416
                                            · rw [if_pos c35] at H
                                              have LMc35 := Aside0.mk c35
                                              clear c35
                                              obtain ⟨y812, hy812⟩ : ∃ y_ : List Int, y_ = ((rd_L3 x5_4 x10_4) ++ [(rd t804 0)]) := ⟨_, rfl⟩
                                              replace H : (numnahref06_Chains.l3 k4 l0 (Go.bits .or .i64 x1_2 (ji25)) (x5_4.set (x10_4 : Int).toNat y812) x8_3 (rd t804 0) (wrap64 (x10_4 + 1))) = some r := by first | (rw [hy812]; with_reducible exact H) | (have H2_ := (Option.bind_some _ _).symm.trans H; rw [hy812]; with_reducible exact H2_) | (have H2_ := (Option.bind_some _ _).symm.trans H; with_reducible exact H2_) | with_reducible exact H | (rw [hy812]; exact H) | exact H
                                              have Ny812 := Aside0.mk hy812
                                              clear hy812
                                              obtain ⟨y815, hy815⟩ : ∃ y_ : List (List Int), y_ = (x5_4.set (x10_4 : Int).toNat y812) := ⟨_, rfl⟩
                                              replace H : (numnahref06_Chains.l3 k4 l0 (Go.bits .or .i64 x1_2 (ji25)) y815 x8_3 (rd t804 0) (wrap64 (x10_4 + 1))) = some r := by first | (rw [hy815]; with_reducible exact H) | (have H2_ := (Option.bind_some _ _).symm.trans H; rw [hy815]; with_reducible exact H2_) | (have H2_ := (Option.bind_some _ _).symm.trans H; with_reducible exact H2_) | with_reducible exact H | (rw [hy815]; exact H) | exact H
                                              have Ny815 := Aside0.mk hy815
                                              clear hy815
                                              have H' := Aside0.mk H
                                              clear H
                                              obtain ⟨Ao37, co37, eo37⟩ := Kd.S_slice HO_5.out
                                              subst eo37
                                              have p808 : 0 ≤ (x10_4 : Int) := of_decide_eq_true (by first | (with_reducible assumption) | assumption)
                                              have q808 : x10_4 < (x5_4.length : Int) := of_decide_eq_true (by first | (with_reducible assumption) | assumption)
                                              obtain ⟨ad808, A808_0, c808_0, e808, hx808_0, hl808_0, hi808_0⟩ := at_L3 (Kd.S_reads' HO_5.out).2.2 x10_4 p808 q808
                                              cases e808
                                              obtain ⟨ce808, hce808, hMe808, hcc808⟩ := Kd.S_get HO_5.out [] x10_4 p808 (by first | exact q808 | exact of_decide_eq_true (by first | (with_reducible assumption) | assumption) | (have e_ := (Kd.S_reads' HO_5.out).1; omega))
                                              obtain ⟨ve808_0, rfl, ge808_0⟩ := hMe808
                                              have hv808_0 := hcc808 0 _ rfl
                                              rw [Nat.add_zero, show ((Kd.slice 3 (Kd.int .i64))).sz = 1 from rfl, Nat.mul_one] at hv808_0
                                              replace hv808_0 := Option.some.inj (hv808_0.symm.trans hx808_0)
                                              rw [hv808_0] at ge808_0
                                              have HL808_0 := Aside0.mk (show Kd.R (Kd.int .i64) 3 _ _ _ _ (rd_L3 x5_4 x10_4) from ge808_0)
                                              clear hv808_0 ge808_0
                                              have HX808_0 := Aside0.mk hx808_0
                                              clear hcc808 hce808
                                              have HR808_0 := Aside0.mk hi808_0
                                              have HC808_0 := Aside0.mk hl808_0
                                              clear hi808_0 hl808_0
                                              replace p808 := eq_true p808
                                              replace q808 := eq_true q808
                                              have p809 : 0 ≤ (x10_4 : Int) := of_decide_eq_true (by first | (with_reducible assumption) | assumption)
                                              have q809 : x10_4 < (x5_4.length : Int) := of_decide_eq_true (by first | (with_reducible assumption) | assumption)
                                              obtain ⟨ad809, A809_0, c809_0, e809, hx809_0, hl809_0, hi809_0⟩ := at_L3 (Kd.S_reads' HO_5.out).2.2 x10_4 p809 q809
                                              obtain rfl : ad808 = ad809 := (by injection e809)
                                              obtain ⟨ce809, hce809, hMe809, hcc809⟩ := Kd.S_get HO_5.out [] x10_4 p809 (by first | exact q809 | exact of_decide_eq_true (by first | (with_reducible assumption) | assumption) | (have e_ := (Kd.S_reads' HO_5.out).1; omega))
                                              obtain ⟨ve809_0, rfl, ge809_0⟩ := hMe809
                                              have hv809_0 := hcc809 0 _ rfl
                                              rw [Nat.add_zero, show ((Kd.slice 3 (Kd.int .i64))).sz = 1 from rfl, Nat.mul_one] at hv809_0
                                              replace hv809_0 := Option.some.inj (hv809_0.symm.trans hx809_0)
                                              rw [hv809_0] at ge809_0
                                              have HL809_0 := Aside0.mk (show Kd.R (Kd.int .i64) 3 _ _ _ _ (rd_L3 x5_4 x10_4) from ge809_0)
                                              clear hv809_0 ge809_0
                                              have HX809_0 := Aside0.mk hx809_0
                                              clear hcc809 hce809
                                              have HR809_0 := Aside0.mk hi809_0
                                              have HC809_0 := Aside0.mk hl809_0
                                              clear hi809_0 hl809_0
                                              replace p809 := eq_true p809
                                              replace q809 := eq_true q809
                                              have ea_ := Option.some.inj (hx808_0.symm.trans hx809_0)
                                              injection ea_ with ea_ en_ ec_
                                              subst ea_
                                              subst ec_
                                              clear en_
                                              have p810 : 0 ≤ ((ji31) : Int) := of_decide_eq_true (by first | (with_reducible assumption) | assumption)
                                              have q810 : (ji31) < ((rd_L3 x5_4 x10_4).length : Int) := of_decide_eq_true (by first | (with_reducible assumption) | assumption)
                                              obtain ⟨ad810, e810, hx810_0⟩ := Kd.at_int (by repeat (first | (with_reducible exact HR808_0.out) | (with_reducible refine Kd.C_alloc ?_ _) | (with_reducible refine Kd.C_drewN ?_ _) | (with_reducible refine Kd.C_drew ?_) | exact HR808_0.out)) (ji31) p810 q810
                                              cases e810
                                              replace p810 := eq_true p810
                                              replace q810 := eq_true q810
                                              have p811 : 0 ≤ (x10_4 : Int) := of_decide_eq_true (by first | (with_reducible assumption) | assumption)
                                              have q811 : x10_4 < (x5_4.length : Int) := of_decide_eq_true (by first | (with_reducible assumption) | assumption)
                                              obtain ⟨ad811, A811_0, c811_0, e811, hx811_0, hl811_0, hi811_0⟩ := at_L3 (Kd.S_reads' HO_5.out).2.2 x10_4 p811 q811
                                              obtain rfl : ad808 = ad811 := (by injection e811)
                                              obtain ⟨ce811, hce811, hMe811, hcc811⟩ := Kd.S_get HO_5.out [] x10_4 p811 (by first | exact q811 | exact of_decide_eq_true (by first | (with_reducible assumption) | assumption) | (have e_ := (Kd.S_reads' HO_5.out).1; omega))
                                              obtain ⟨ve811_0, rfl, ge811_0⟩ := hMe811
                                              have hv811_0 := hcc811 0 _ rfl
                                              rw [Nat.add_zero, show ((Kd.slice 3 (Kd.int .i64))).sz = 1 from rfl, Nat.mul_one] at hv811_0
                                              replace hv811_0 := Option.some.inj (hv811_0.symm.trans hx811_0)
                                              rw [hv811_0] at ge811_0
                                              have HL811_0 := Aside0.mk (show Kd.R (Kd.int .i64) 3 _ _ _ _ (rd_L3 x5_4 x10_4) from ge811_0)
                                              clear hv811_0 ge811_0
                                              have HX811_0 := Aside0.mk hx811_0
                                              clear hcc811 hce811
                                              have HR811_0 := Aside0.mk hi811_0
                                              have HC811_0 := Aside0.mk hl811_0
                                              clear hi811_0 hl811_0
                                              replace p811 := eq_true p811
                                              replace q811 := eq_true q811
                                              have ea_ := Option.some.inj (hx808_0.symm.trans hx811_0)
                                              injection ea_ with ea_ en_ ec_
                                              subst ea_
                                              subst ec_
                                              clear en_
                                              obtain ⟨go38, co38, eo38, gb38, gl38, cl38, HG38⟩ := Kd.S_form HO_5.out (by have h_ : (x10_4 : Int) < ((x5_4.length : Int) : Int) := of_decide_eq_true (by first | (with_reducible assumption) | assumption); have h2_ : 0 ≤ (x10_4 : Int) := (of_decide_eq_true (by first | (with_reducible assumption) | assumption)); omega)
                                              (first | cases eo38 | (injection eo38 with ea_ en_ ec_; (first | subst ea_ | (injection ea_ with ea_; subst ea_)); subst ec_; clear en_))
                                              have GB38 := Aside0.mk gb38
                                              have GG38 := Aside0.mk HG38
                                              clear gb38 gl38 HG38
                                              (first | simp only [add_plain] at hx808_0 | skip)
                                              (first | simp only [add_plain] at hx809_0 | skip)
                                              (first | simp only [add_plain] at hx811_0 | skip)
                                              obtain ⟨oki38, ce38, hcl38, hM38, hcc38, _, _, hH38⟩ := Kd.S_elem HO_5.out [] (x10_4 : Int) (of_decide_eq_true (by first | (with_reducible assumption) | assumption)) (by have h_ : (x10_4 : Int) < ((x5_4.length : Int) : Int) := of_decide_eq_true (by first | (with_reducible assumption) | assumption); first | exact h_ | (have e_ := (Kd.S_reads' HO_5.out).1; omega) | simpa using h_)
                                              obtain ⟨ve38_0, rfl, ge38_0⟩ := hM38
                                              have hv38 := hcc38 0 _ rfl
                                              have hX38 := HX811_0.out
                                              (try simp only [add_plain] at hX38)
                                              (try simp only [Nat.add_zero] at hv38)
                                              (try rw [show ((Kd.slice 3 (Kd.int .i64))).sz = 1 from rfl, Nat.mul_one] at hv38)
                                              replace hv38 := Option.some.inj (hv38.symm.trans hX38)
                                              subst hv38
                                              clear hX38 hcc38 hcl38
                                              have UU38 := Aside0.mk (show Kd.R (Kd.int .i64) 3 _ w.heap.size oki38 (.slice (some ad810) (rd_L3 x5_4 x10_4).length c808_0) (rd_L3 x5_4 x10_4) from ge38_0)
                                              have HH38 := Aside0.mk hH38
                                              have HN38 := Aside0.mk (Kd.S_reads' HO_5.out).1
                                              clear hH38 ge38_0
                                              go_wp2_with (fail)
                                              repeat (go_quiet (fail); try go_wp2_with (first | ((with_reducible refine gate_builtin (b := .append) (xs := #[.tmp 86, .tmp 88]) rfl ?_); at_builtin; refine Kd.R_append (Kd.int .i64) (w0 := w) w.heap.size rfl (.tmp 86) (.tmp 88) 24 3 (.int .i64 0) 8 rfl Tryd.underlying24 info3 rfl (by decide) (by omega) (.slice (some ad810) (rd_L3 x5_4 x10_4).length c808_0) (rd_L3 x5_4 x10_4) (rd t804 0) [.int .i64 (rd t804 0)] (fun k_ => oki38 k_ ∨ ((fun _ => True)) k_ ∧ wr.heap.size ≤ k_) (fun _ => False) rfl rfl ?aP (fun _ hk => hk.elim) ?aF ?aO ?aB ?aS ?aL ?_; (case aP => exact rfl); (case aB => exact (by repeat (first | (with_reducible first | exact HB.out | apply below_alloc | apply pw_below_drewN | apply below_drew1) | exact HB.out))); (case aF => exact (fun k_ hk => .inr ⟨trivial, hk⟩)); (case aO => exact (by (with_reducible repeat (first | apply Kd.R_alloc | apply Kd.R_drewN | apply Kd.R_drew)); exact Kd.R_mono UU38.out (fun _ hk => .inl hk))); (case aS => exact (below_size (by repeat (first | (with_reducible first | exact HB.out | apply below_alloc | apply pw_below_drewN | apply below_drew1) | exact HB.out)))); (case aL => have := LMc35.out; omega); intro v813 w39 ho hb hg hat; rw [← Ny812.out] at ho; have n0_ := Aside0.mk (hb); have n1_ := Aside0.mk (Kd.H_grown (Kd.H_widen (by repeat (first | exact HH38.out | refine Kd.H_alloc ?_ _ | refine Kd.H_drewN ?_ _ | refine Kd.H_drew ?_))) hg (fun k_ e_ => .inl (UU38.out.1 k_ e_))); have n2_ := Aside0.mk (ho); clear HB; clear HH38; clear HO_5; clear UU38; clear HL808_0; clear HL809_0; clear HL811_0; have HB := n0_; have HH38 := n1_; have HO814 := n2_; clear n0_ n1_ n2_; clear ho hb hg hat; have p36 : 0 ≤ (x10_4 : Int) := of_decide_eq_true (by first | (with_reducible assumption) | assumption); have q36 : (x10_4 : Int) < ((x5_4.length : Int) : Int) := of_decide_eq_true (by first | (with_reducible assumption) | assumption); replace p36 := eq_true p36; replace q36 := eq_true q36; obtain ⟨Ao42, co42, eo42⟩ := Kd.R_slice HO814.out; subst eo42; obtain ⟨_, _, hraw40, _, _, hcc40, _⟩ := Kd.H_raw HH38.out (of_decide_eq_true (by first | (with_reducible assumption) | assumption)) (by have h_ : (x10_4 : Int) < ((x5_4.length : Int) : Int) := of_decide_eq_true (by first | (with_reducible assumption) | assumption); first | exact h_ | (have e_ := (HN38.out); omega) | simpa using h_); obtain ⟨_, hfr40⟩ := Kd.H_at HH38.out (of_decide_eq_true (by first | (with_reducible assumption) | assumption)) (by have h_ : (x10_4 : Int) < ((x5_4.length : Int) : Int) := of_decide_eq_true (by first | (with_reducible assumption) | assumption); first | exact h_ | (have e_ := (HN38.out); omega) | simpa using h_); have hx40_0 := hcc40 0 _ rfl; have hf40_0 := hfr40 0; (try simp only [Nat.add_zero] at hx40_0 hf40_0); (try rw [show ((Kd.slice 3 (Kd.int .i64))).sz = 1 from rfl, Nat.mul_one] at hx40_0); (try rw [show ((Kd.slice 3 (Kd.int .i64))).sz = 1 from rfl, Nat.mul_one] at hf40_0); have HP40 := Kd.S_seg0 HH38.out (of_decide_eq_true (by first | (with_reducible assumption) | assumption)) (by have h_ : (x10_4 : Int) < ((x5_4.length : Int) : Int) := of_decide_eq_true (by first | (with_reducible assumption) | assumption); first | exact h_ | (have e_ := (HN38.out); omega) | simpa using h_) (seg := [.slice Ao42 y812.length co42]) (j := 0) (show 1 ≤ 1 from by decide) (x' := y812) (Kd.M_row HO814.out) (fun _ hk => hk); (try simp only [show ((Kd.slice 3 (Kd.int .i64))).sz = 1 from rfl, Nat.mul_one, Nat.add_zero] at HP40); clear hcc40 hfr40) | ((with_reducible refine gate_store (t := 24) (p := 90) rfl ?_); (try (rw [drewN_self w39]; generalize hq_ : World.drewN w39 _ = w39; have n0_ := Aside0.mk (Kd.S_at hq_ HO_5.out); have n1_ := Aside0.mk (below_at hq_ HB.out); clear hq_ HO_5 HB; have HO_5 := n0_; have HB := n1_; clear n0_ n1_; (try (obtain ⟨Ao42, co42, eo42⟩ := Kd.R_slice HO814.out)); (try (subst eo42)); (try (obtain ⟨_, _, hraw40, _, _, hcc40, _⟩ := Kd.H_raw HH38.out (of_decide_eq_true (by first | (with_reducible assumption) | assumption)) (by have h_ : (x10_4 : Int) < ((x5_4.length : Int) : Int) := of_decide_eq_true (by first | (with_reducible assumption) | assumption); first | exact h_ | (have e_ := (HN38.out); omega) | simpa using h_))); (try (obtain ⟨_, hfr40⟩ := Kd.H_at HH38.out (of_decide_eq_true (by first | (with_reducible assumption) | assumption)) (by have h_ : (x10_4 : Int) < ((x5_4.length : Int) : Int) := of_decide_eq_true (by first | (with_reducible assumption) | assumption); first | exact h_ | (have e_ := (HN38.out); omega) | simpa using h_))); (try (have hx40_0 := hcc40 0 _ rfl)); (try (have hf40_0 := hfr40 0)); (try (try simp only [Nat.add_zero] at hx40_0 hf40_0)); (try (try rw [show ((Kd.slice 3 (Kd.int .i64))).sz = 1 from rfl, Nat.mul_one] at hx40_0)); (try (try rw [show ((Kd.slice 3 (Kd.int .i64))).sz = 1 from rfl, Nat.mul_one] at hf40_0)); (try (have HP40 := Kd.S_seg0 HH38.out (of_decide_eq_true (by first | (with_reducible assumption) | assumption)) (by have h_ : (x10_4 : Int) < ((x5_4.length : Int) : Int) := of_decide_eq_true (by first | (with_reducible assumption) | assumption); first | exact h_ | (have e_ := (HN38.out); omega) | simpa using h_) (seg := [.slice Ao42 y812.length co42]) (j := 0) (show 1 ≤ 1 from by decide) (x' := y812) (Kd.M_row HO814.out) (fun _ hk => hk))); (try (try simp only [show ((Kd.slice 3 (Kd.int .i64))).sz = 1 from rfl, Nat.mul_one, Nat.add_zero] at HP40)); (try (clear hcc40 hfr40)))); refine store_event (t := 24) (p := 90) (v := ?vo_w41) (w1 := (w39.setCell ⟨go38, (x10_4 : Int).toNat, none⟩ (.slice Ao42 y812.length co42))) ?hg ?ho ?hn ?hr ?_; (case ho => rfl); (case hg => rfl); (case hn => rfl); (case hr => first | (go_simp; done) | (go_simp; rfl)); intro w41 hw; have hg : w39.grownBy w41 (some go38) := (by rw [hw]; exact HP40.2); have hp_ : Kd.S (Kd.slice 3 (Kd.int .i64)) 24 w41 w.heap.size (fun _ => True) (.slice (some ⟨go38, 0, none⟩) x5_4.length co37) y815 := (by rw [hw, Ny815.out]; exact HP40.1); clear HP40; have n0_ := Aside0.mk ((by rw [hw]; exact below_set HB.out GB38.out : Below w.heap.size w w41)); have n1_ := Aside0.mk (hp_); clear HB; clear HO814; clear HH38; have HB := n0_; have HO_5 := n1_; clear n0_ n1_; clear hg hw hp_ hraw40)))
                                              go_roundg k4
                                              case measure => have := HK1.out; have := HK2.out; have := HK3.out; have := HK4.out; omega
                                              case rel => exact ⟨(y815), (wrap64 (x10_4 + 1)), (by first | rfl | (simp; done) | (simp [*]; done)), H', ⟨by have := HK1.out; have := HK2.out; have := HK3.out; have := HK4.out; omega⟩, ⟨by (with_reducible repeat (first | apply Kd.S_alloc | apply Kd.S_drewN | apply Kd.S_drew)); exact HO_5.out⟩, ⟨by repeat (first | (with_reducible first | exact HB.out | apply below_alloc | apply pw_below_drewN | apply below_drew1) | exact HB.out)⟩⟩
                                            · rw [if_neg c35] at H
                                              exact absurd H (by simp)
                                          · rw [if_neg c34] at H
                                            have c34b0 : ((rd (rd_L3 x5_4 x10_4) (ji31)) == x8_3) = false := beq_eq_false_iff_ne.mpr c34
                                            have c34b1 : ((rd (rd_L3 x5_4 x10_4) (ji31)) != x8_3) = true := bne_iff_ne.mpr c34
                                            have H' := Aside0.mk H
                                            clear H
                                            obtain ⟨Ao43, co43, eo43⟩ := Kd.S_slice HO_5.out
                                            subst eo43
                                            have p808 : 0 ≤ (x10_4 : Int) := of_decide_eq_true (by first | (with_reducible assumption) | assumption)
                                            have q808 : x10_4 < (x5_4.length : Int) := of_decide_eq_true (by first | (with_reducible assumption) | assumption)
                                            obtain ⟨ad808, A808_0, c808_0, e808, hx808_0, hl808_0, hi808_0⟩ := at_L3 (Kd.S_reads' HO_5.out).2.2 x10_4 p808 q808
                                            cases e808
                                            obtain ⟨ce808, hce808, hMe808, hcc808⟩ := Kd.S_get HO_5.out [] x10_4 p808 (by first | exact q808 | exact of_decide_eq_true (by first | (with_reducible assumption) | assumption) | (have e_ := (Kd.S_reads' HO_5.out).1; omega))
                                            obtain ⟨ve808_0, rfl, ge808_0⟩ := hMe808
                                            have hv808_0 := hcc808 0 _ rfl
                                            rw [Nat.add_zero, show ((Kd.slice 3 (Kd.int .i64))).sz = 1 from rfl, Nat.mul_one] at hv808_0
                                            replace hv808_0 := Option.some.inj (hv808_0.symm.trans hx808_0)
                                            rw [hv808_0] at ge808_0
                                            have HL808_0 := Aside0.mk (show Kd.R (Kd.int .i64) 3 _ _ _ _ (rd_L3 x5_4 x10_4) from ge808_0)
                                            clear hv808_0 ge808_0
                                            have HX808_0 := Aside0.mk hx808_0
                                            clear hcc808 hce808
                                            have HR808_0 := Aside0.mk hi808_0
                                            have HC808_0 := Aside0.mk hl808_0
                                            clear hi808_0 hl808_0
                                            replace p808 := eq_true p808
                                            replace q808 := eq_true q808
                                            have p809 : 0 ≤ (x10_4 : Int) := of_decide_eq_true (by first | (with_reducible assumption) | assumption)
                                            have q809 : x10_4 < (x5_4.length : Int) := of_decide_eq_true (by first | (with_reducible assumption) | assumption)
                                            obtain ⟨ad809, A809_0, c809_0, e809, hx809_0, hl809_0, hi809_0⟩ := at_L3 (Kd.S_reads' HO_5.out).2.2 x10_4 p809 q809
                                            obtain rfl : ad808 = ad809 := (by injection e809)
                                            obtain ⟨ce809, hce809, hMe809, hcc809⟩ := Kd.S_get HO_5.out [] x10_4 p809 (by first | exact q809 | exact of_decide_eq_true (by first | (with_reducible assumption) | assumption) | (have e_ := (Kd.S_reads' HO_5.out).1; omega))
                                            obtain ⟨ve809_0, rfl, ge809_0⟩ := hMe809
                                            have hv809_0 := hcc809 0 _ rfl
                                            rw [Nat.add_zero, show ((Kd.slice 3 (Kd.int .i64))).sz = 1 from rfl, Nat.mul_one] at hv809_0
                                            replace hv809_0 := Option.some.inj (hv809_0.symm.trans hx809_0)
                                            rw [hv809_0] at ge809_0
                                            have HL809_0 := Aside0.mk (show Kd.R (Kd.int .i64) 3 _ _ _ _ (rd_L3 x5_4 x10_4) from ge809_0)
                                            clear hv809_0 ge809_0
                                            have HX809_0 := Aside0.mk hx809_0
                                            clear hcc809 hce809
                                            have HR809_0 := Aside0.mk hi809_0
                                            have HC809_0 := Aside0.mk hl809_0
                                            clear hi809_0 hl809_0
                                            replace p809 := eq_true p809
                                            replace q809 := eq_true q809
                                            have ea_ := Option.some.inj (hx808_0.symm.trans hx809_0)
                                            injection ea_ with ea_ en_ ec_
                                            subst ea_
                                            subst ec_
                                            clear en_
                                            have p810 : 0 ≤ ((ji31) : Int) := of_decide_eq_true (by first | (with_reducible assumption) | assumption)
                                            have q810 : (ji31) < ((rd_L3 x5_4 x10_4).length : Int) := of_decide_eq_true (by first | (with_reducible assumption) | assumption)
                                            obtain ⟨ad810, e810, hx810_0⟩ := Kd.at_int (by repeat (first | (with_reducible exact HR808_0.out) | (with_reducible refine Kd.C_alloc ?_ _) | (with_reducible refine Kd.C_drewN ?_ _) | (with_reducible refine Kd.C_drew ?_) | exact HR808_0.out)) (ji31) p810 q810
                                            cases e810
                                            replace p810 := eq_true p810
                                            replace q810 := eq_true q810
                                            go_wp2
                                            repeat (go_quiet (fail); try go_wp2)
                                            go_roundg k4
                                            case measure => have := HK1.out; have := HK2.out; have := HK3.out; have := HK4.out; omega
                                            case rel => exact ⟨(x5_4), (wrap64 (x10_4 + 1)), (by first | rfl | (simp; done) | (simp [*]; done)), H', ⟨by have := HK1.out; have := HK2.out; have := HK3.out; have := HK4.out; omega⟩, ⟨by (with_reducible repeat (first | apply Kd.S_alloc | apply Kd.S_drewN | apply Kd.S_drew)); exact HO_5.out⟩, ⟨by repeat (first | (with_reducible first | exact HB.out | apply below_alloc | apply pw_below_drewN | apply below_drew1) | exact HB.out)⟩⟩
                                        · rw [if_neg c33] at H
                                          exact absurd H (by simp)
                                      · rw [if_neg c32] at H
                                        exact absurd H (by simp)
                                    · rw [if_neg c30] at H
                                      exact absurd H (by simp)
                                  · rw [if_neg c29] at H
                                    have c29b0 : decide (x10_4 < (x5_4.length : Int)) = false := decide_eq_false c29
                                    clear c29
                                    have H' := Aside0.mk H
                                    clear H
                                    obtain ⟨Ao44, co44, eo44⟩ := Kd.S_slice HO_5.out
                                    subst eo44
                                    go_wp2
                                    go_roundg k4
                                    case measure => have := HK1.out; have := HK2.out; have := HK3.out; have := HK4.out; omega
                                    case rel => exact ⟨((Go.bits .or .i64 x1_2 (ji25))), (x5_4), (by first | rfl | (simp; done) | (simp only [← hji25] <;> (first | rfl | simp)) | (simp [*]; done)), H', ⟨by have := HK1.out; have := HK2.out; have := HK3.out; have := HK4.out; omega⟩, ⟨by (with_reducible repeat (first | apply Kd.S_alloc | apply Kd.S_drewN | apply Kd.S_drew)); exact HO_5.out⟩, ⟨by repeat (first | (with_reducible first | exact HB.out | apply below_alloc | apply pw_below_drewN | apply below_drew1) | exact HB.out)⟩⟩
                            · rw [if_neg c24] at H
                              exact absurd H (by simp)
                          · rw [if_neg c23] at H
                            exact absurd H (by simp)
                        · rw [if_neg c21] at H
                          have c21b0 : (t802 == 1) = false := beq_eq_false_iff_ne.mpr c21
                          have c21b1 : (t802 != 1) = true := bne_iff_ne.mpr c21
                          have H' := Aside0.mk H
                          clear H
                          have p801 : 0 ≤ (x8_3 : Int) := of_decide_eq_true (by first | (with_reducible assumption) | assumption)
                          have q801 : x8_3 < (l0.length : Int) := of_decide_eq_true (by first | (with_reducible assumption) | assumption)
                          obtain ⟨ad801, e801, hx801_0⟩ := Kd.at_int HR0.out x8_3 p801 q801
                          cases e801
                          replace hx801_0 := (HB.out.cell (World.block_lt_of_cell? w _ hx801_0)).trans hx801_0
                          replace p801 := eq_true p801
                          replace q801 := eq_true q801
                          go_wp2_with (first | (go_at_call 41; (with_reducible refine (numnahref06_Count.calls k3 (Go.bits .andNot .i64 (rd l0 x8_3) x1_2) t802 _ A20.out).mono ?_); rintro e w45 ⟨rfl, hb⟩; have n0_ := Aside0.mk (Kd.S_below (by (with_reducible repeat (first | apply Kd.S_alloc | apply Kd.S_drewN | apply Kd.S_drew)); exact HO_5.out) hb); have n1_ := Aside0.mk (below_step (by repeat (first | (with_reducible first | exact HB.out | apply below_alloc | apply pw_below_drewN | apply below_drew1) | exact HB.out)) hb); clear HO_5; clear HB; have HO_5 := n0_; have HB := n1_; clear n0_ n1_; (try clear hb); (try clear hb2); (try clear hk); (try clear hi)))
                          go_roundg k3
                          case measure => have := HK1.out; have := HK2.out; have := HK3.out; omega
                          case rel => exact ⟨(wrap64 (x8_3 + 1)), (by first | rfl | (simp; done) | (simp [*]; done)), H', ⟨by have := HK1.out; have := HK2.out; have := HK3.out; omega⟩, ⟨by (with_reducible repeat (first | apply Kd.S_alloc | apply Kd.S_drewN | apply Kd.S_drew)); exact HO_5.out⟩, ⟨by repeat (first | (with_reducible first | exact HB.out | apply below_alloc | apply pw_below_drewN | apply below_drew1) | exact HB.out)⟩⟩
                      · rw [if_neg c19] at H
                        exact absurd H (by simp)
                  · rw [if_neg c16] at H
                    exact absurd H (by simp)
end Go.Proofs.YtpbeaaihdmfnlaaDoor.G
