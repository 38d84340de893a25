/- Several texts, joined. -/
import Derived.Test.YtpbeaaihdmfnlaaDoorQB6
namespace Go.Proofs.YtpbeaaihdmfnlaaDoor.G
end Go.Proofs.YtpbeaaihdmfnlaaDoor.G
namespace Go.Proofs.YtpbeaaihdmfnlaaDoor.H
end Go.Proofs.YtpbeaaihdmfnlaaDoor.H
namespace Go.Proofs.YtpbeaaihdmfnlaaDoor.M
end Go.Proofs.YtpbeaaihdmfnlaaDoor.M
namespace Go.Proofs.YtpbeaaihdmfnlaaDoor.Row
end Go.Proofs.YtpbeaaihdmfnlaaDoor.Row
namespace Go.Proofs.YtpbeaaihdmfnlaaDoorW.PrintLast
end Go.Proofs.YtpbeaaihdmfnlaaDoorW.PrintLast
namespace Go.Proofs.YtpbeaaihdmfnlaaDoorW.PrintMore
end Go.Proofs.YtpbeaaihdmfnlaaDoorW.PrintMore
namespace Go.Proofs.YtpbeaaihdmfnlaaDoorW.PrintWords
end Go.Proofs.YtpbeaaihdmfnlaaDoorW.PrintWords

/- ### Wya -/
/- Chains: the plain words. -/
namespace Go.Proofs.YtpbeaaihdmfnlaaDoor.H
open Go Go.RowKit Go.Shelf Go.Proofs.YtpbeaaihdmfnlaaDoor.M Go.Proofs.YtpbeaaihdmfnlaaDoor.G Go.Proofs.YtpbeaaihdmfnlaaDoorW.PrintWords

/-- What a place forces. -/
def nxtF (v : Int) (o : Option Nat) (p : Nat × Nat) : Option Nat := if (p.1 : Int) = v then some p.2 else o
def nxt (l : List (Nat × Nat)) (v : Int) : Option Nat := l.foldl (nxtF v) none
def tailF (l : List (Nat × Nat)) : Nat → Int → List Int
  | 0, _ => []
  | k + 1, v => match nxt l v with
    | none => []
    | some u => (u : Int) :: tailF l k (u : Int)
def chainI (l : List (Nat × Nat)) (v : Int) : List Int := v :: tailF l l.length v
def chainsX (n : Int) (l : List S48) (s : List Int) : List (List Int) × Int := match bothM n l s with
  | none => ([], 2)
  | some (g, t) => if (chronL g.near (2 ^ g.n - t) t).2 = full g.n then (s.map (chainI (chronL g.near (2 ^ g.n - t) t).1), 0) else ([], 6)
/-- The forces stand in their order. -/
def Ord : Nat → List (Nat × Nat) → Prop
  | _, [] => True
  | s, p :: l => s.testBit p.1 = true ∧ s.testBit p.2 = false ∧ Ord (s ||| 2 ^ p.2) l
def rk : List (Nat × Nat) → Int → Nat
  | [], _ => 0
  | p :: l, x => if x = (p.2 : Int) then 1 else if rk l x = 0 then 0 else rk l x + 1
theorem rk_le : ∀ (l : List (Nat × Nat)) (x : Int), rk l x ≤ l.length
  | [], _ => Nat.le_refl _
  | p :: l, x => by
    have := rk_le l x
    unfold rk
    rw [List.length_cons]
    split
    · omega
    · split <;> omega
theorem ord_wet : ∀ (l : List (Nat × Nat)) (s : Nat), Ord s l → ∀ x : Nat, s.testBit x = true → rk l (x : Int) = 0
  | [], _, _, _, _ => rfl
  | p :: l, s, h, x, hx => by
    obtain ⟨h1, h2, h3⟩ := h
    have := ord_wet l _ h3 x (by rw [Nat.testBit_or, hx]; rfl)
    unfold rk
    rw [if_neg, if_pos this]
    intro e
    have : x = p.2 := by omega
    rw [this, h2] at hx; cases hx
theorem ord_pos : ∀ (l : List (Nat × Nat)) (s : Nat), Ord s l → ∀ p ∈ l, 0 < rk l (p.2 : Int) ∧ s.testBit p.2 = false
  | q :: l, s, h, p, hp => by
    obtain ⟨h1, h2, h3⟩ := h
    unfold rk
    rcases List.mem_cons.1 hp with rfl | hp
    · exact ⟨by rw [if_pos rfl]; omega, h2⟩
    · obtain ⟨h4, h5⟩ := ord_pos l _ h3 p hp
      rw [Nat.testBit_or, Bool.or_eq_false_iff] at h5
      refine ⟨?_, h5.1⟩
      split
      · omega
      · rw [if_neg (by omega)]; omega
theorem ord_lt : ∀ (l : List (Nat × Nat)) (s : Nat), Ord s l → ∀ p ∈ l, rk l (p.1 : Int) < rk l (p.2 : Int)
  | q :: l, s, h, p, hp => by
    have hh := h
    obtain ⟨h1, h2, h3⟩ := h
    rcases List.mem_cons.1 hp with rfl | hp
    · have := (ord_pos (p :: l) s hh p hp).1
      have h0 : rk (p :: l) (p.1 : Int) = 0 := ord_wet _ _ hh _ h1
      omega
    · have ih := ord_lt l _ h3 p hp
      have hd := (ord_pos l _ h3 p hp)
      have hne : ¬ ((p.2 : Int) = (q.2 : Int)) := by
        intro e
        have e2 : p.2 = q.2 := by omega
        have := hd.2
        rw [e2, Nat.testBit_or, Nat.testBit_two_pow_self, Bool.or_true] at this; cases this
      have e1 : rk (q :: l) (p.2 : Int) = rk l (p.2 : Int) + 1 := by
        rw [rk, if_neg hne, if_neg (by omega)]
      rw [e1, rk]
      split
      · omega
      · split <;> omega
theorem nxt_mem (v : Int) (u : Nat) : ∀ (l : List (Nat × Nat)) (o : Option Nat), l.foldl (nxtF v) o = some u → o = some u ∨ ∃ p ∈ l, (p.1 : Int) = v ∧ p.2 = u
  | [], o, h => .inl h
  | p :: l, o, h => by
    rw [List.foldl_cons] at h
    rcases nxt_mem v u l _ h with h | ⟨q, hq, h1⟩
    · unfold nxtF at h
      split at h
      · rename_i hc
        exact .inr ⟨p, by simp, hc, Option.some.inj h⟩
      · exact .inl h
    · exact .inr ⟨q, by simp [hq], h1⟩
theorem nxt_some {l : List (Nat × Nat)} {v : Int} {u : Nat} (h : nxt l v = some u) : ∃ p ∈ l, (p.1 : Int) = v ∧ p.2 = u := by
  rcases nxt_mem v u l none h with h | h
  · cases h
  · exact h
theorem nxt_rk {l : List (Nat × Nat)} {s : Nat} (ho : Ord s l) {v : Int} {u : Nat} (h : nxt l v = some u) : rk l v < rk l (u : Int) := by
  obtain ⟨p, hp, rfl, rfl⟩ := nxt_some h
  exact ord_lt l s ho p hp
/-- The map of the forces. -/
def mapF (m : DataW Unit) (p : Nat × Nat) : DataW Unit := m.put (Lit.int .i64 (p.1 : Int)) (.lit (.int .i64 (p.2 : Int)))
def mapD (l : List (Nat × Nat)) : DataW Unit := l.foldl mapF (.map [])
theorem mapD_fold (v : Int) : ∀ (l : List (Nat × Nat)) (m : DataW Unit) (o : Option Nat), Maps.IsMap m → Maps.has m (Lit.int .i64 v) = o.isSome → (∀ u : Nat, o = some u → ∀ z, m.atKey (Lit.int .i64 v) z = .lit (.int .i64 (u : Int))) →
    Maps.has (l.foldl mapF m) (Lit.int .i64 v) = (l.foldl (nxtF v) o).isSome ∧ (∀ u : Nat, l.foldl (nxtF v) o = some u → ∀ z, (l.foldl mapF m).atKey (Lit.int .i64 v) z = .lit (.int .i64 (u : Int)))
  | [], m, o, _, h1, h2 => ⟨h1, h2⟩
  | p :: l, m, o, h0, h1, h2 => by
    rw [List.foldl_cons, List.foldl_cons]
    have hkl : WideAt.IsKeyLit (Lit.int .i64 v) := trivial
    by_cases hc : (p.1 : Int) = v
    · refine mapD_fold v l _ _ (h0.put _ _) ?_ ?_
      · unfold mapF nxtF; rw [if_pos hc, hc, Maps.has_put_same h0 hkl]; rfl
      · intro u hu z
        unfold nxtF at hu
        rw [if_pos hc] at hu
        unfold mapF
        rw [hc, Maps.atKey_put_same h0 hkl, Option.some.inj hu]
    · have hne : Lit.int .i64 v ≠ Lit.int .i64 (p.1 : Int) := fun e => hc (by injection e with _ e; exact e.symm)
      refine mapD_fold v l _ _ (h0.put _ _) ?_ ?_
      · unfold mapF nxtF; rw [if_neg hc, Maps.has_put_other hne]; exact h1
      · intro u hu z
        unfold nxtF at hu
        rw [if_neg hc] at hu
        unfold mapF
        rw [Maps.atKey_put_other hne]; exact h2 u hu z
theorem mapD_has (l : List (Nat × Nat)) (v : Int) : Maps.has (mapD l) (Lit.int .i64 v) = (nxt l v).isSome := (mapD_fold v l (.map []) none ⟨_, rfl⟩ rfl (fun _ h => by cases h)).1
theorem mapD_at {l : List (Nat × Nat)} {v : Int} {u : Nat} (h : nxt l v = some u) (z : DataW Unit) : (mapD l).atKey (Lit.int .i64 v) z = .lit (.int .i64 (u : Int)) := (mapD_fold v l (.map []) none ⟨_, rfl⟩ rfl (fun _ h => by cases h)).2 u h z
theorem mapD_snoc (l : List (Nat × Nat)) (p : Nat × Nat) : mapD (l ++ [p]) = (mapD l).put (Lit.int .i64 (p.1 : Int)) (.lit (.int .i64 (p.2 : Int))) := by unfold mapD; rw [List.foldl_append]; rfl
theorem chronL_ord {near : Nat → Nat} {n : Nat} (hn : n ≤ 12) (hnear : ∀ v, near v < 2 ^ n) : ∀ (k s : Nat), s < 2 ^ n → Ord s (chronL near k s).1 ∧ (∀ p ∈ (chronL near k s).1, p.1 < n ∧ p.2 < n) := by
  intro k
  induction k with
  | zero => intro s _; exact ⟨trivial, fun p hp => by cases hp⟩
  | succ k ih =>
    intro s hs
    rw [chronL]
    cases hx : nextM near s with
    | none => exact ⟨trivial, fun p hp => by cases hp⟩
    | some v =>
      obtain ⟨q1, q2, q3, q4⟩ := next_facts hn hnear hx
      have hv := (mem_bitsOf.1 q1).2
      obtain ⟨i1, i2⟩ := ih (s ||| 2 ^ low (andNot (near v) s)) (Nat.or_lt_two_pow hs (Nat.pow_lt_pow_right (by decide) q4))
      refine ⟨⟨hv, q3, i1⟩, fun p hp => ?_⟩
      rcases List.mem_cons.1 hp with rfl | hp
      · exact ⟨bit_lt hs hv, q4⟩
      · exact i2 p hp
theorem ord_ne {l : List (Nat × Nat)} {s : Nat} (h : Ord s l) : ∀ p ∈ l, p.1 ≠ p.2 := fun p hp e => by
  have := ord_lt l s h p hp
  rw [e] at this; omega
theorem wf_i64 (x : Nat) (h : x < 4096) : (Lit.int .i64 (x : Int)).wf = true := by
  have e1 : IntKind.i64.min = -9223372036854775808 := by decide
  have e2 : IntKind.i64.max = 9223372036854775807 := by decide
  simp only [Lit.wf, e1, e2, Bool.and_eq_true, decide_eq_true_eq]
  omega
theorem run_map107 (W : World) : (Instr.makeMap 107 none).run Tryd.prog W = .ok (.map (some W.heap.size)) (W.alloc (.map #[] 0)) := run_makeMap 107 W
theorem zero3 (w : World) : (zeroValue 3).run Tryd.prog w = .ok (.int .i64 0) w := by kernel_rfl
theorem eqA108 (d : Nat) (w : World) (x0 y0 : Int) (x1 y1 : Int) :
    (Op.equalIn (d + 2) 108 (.agg #[.int .i64 x0, .int .i64 x1]) (.agg #[.int .i64 y0, .int .i64 y1])).run Tryd.prog w = .ok (x0 == y0 && (x1 == y1)) w :=
  ArrEq.eqArr2 w d Tryd.underlying108 Tryd.underlying3 (by kernel_rfl) (by kernel_rfl) x0 y0 x1 y1
end Go.Proofs.YtpbeaaihdmfnlaaDoor.H

/- ### Pp -/
/- Chronicles and chains, plain. -/
namespace Go.Proofs.YtpbeaaihdmfnlaaDoor.P
open Go Go.RowKit Go.Proofs.YtpbeaaihdmfnlaaDoor.M Go.Proofs.YtpbeaaihdmfnlaaDoor.H Go.Proofs.YtpbeaaihdmfnlaaDoor.G
open Go.Proofs.YtpbeaaihdmfnlaaDoorW.PrintWords Go.Proofs.YtpbeaaihdmfnlaaDoorW.PrintMore

theorem one_force {near : Nat → Nat} {n s v : Nat} (hn : n ≤ 12) (hr : ∀ v, near v < 2 ^ n) (h : nextM near s = some v) :
    s.testBit v = true ∧ andNot (near v) s = 2 ^ low (andNot (near v) s) ∧ s.testBit (low (andNot (near v) s)) = false ∧ low (andNot (near v) s) < n := by
  obtain ⟨h1, h2, h3, h4⟩ := next_facts hn hr h
  refine ⟨(mem_bitsOf.1 h1).2, ?_, h3, h4⟩
  exact (one_low (Nat.lt_of_lt_of_le (andNot_lt (hr v)) (Nat.pow_le_pow_right (by decide) (by omega))) h2).1
theorem next_none {near : Nat → Nat} {s : Nat} (hs : s < 2 ^ 64) (h : nextM near s = none) : forcedM near s = 0 := by
  apply Classical.byContradiction
  intro hne
  obtain ⟨i, hi⟩ := ne_zero_bit hne
  obtain ⟨v, h1, h2, _⟩ := (testBit_forced hs).1 hi
  have h3 := List.find?_eq_none.1 h v (mem_bitsOf.2 ⟨bit_lt hs h1, h1⟩)
  apply h3
  unfold canForce
  rw [h2]; rfl
theorem chron_done {near : Nat → Nat} {n : Nat} (hn : n ≤ 12) (hr : ∀ v, near v < 2 ^ n) : ∀ (k s : Nat), s < 2 ^ n → 2 ^ n ≤ k + s →
    nextM near (chronL near k s).2 = none ∧ (chronL near k s).2 < 2 ^ n ∧ Sub s (chronL near k s).2 ∧ ∀ c, c < 2 ^ n → forcedM near c = 0 → Sub s c → Sub (chronL near k s).2 c := by
  intro k
  induction k with
  | zero => intro s hs h; omega
  | succ k ih =>
    intro s hs h
    rw [chronL]
    cases hx : nextM near s with
    | none => exact ⟨hx, hs, Sub.refl s, fun c _ _ h => h⟩
    | some v =>
      obtain ⟨h1, h2, h3, h4⟩ := one_force hn hr hx
      obtain ⟨i1, i2, i3, i4⟩ := ih (s ||| 2 ^ low (andNot (near v) s)) (Nat.or_lt_two_pow hs (Nat.pow_lt_pow_right (by decide) h4)) (by have := or_gt h3; omega)
      refine ⟨i1, i2, (sub_or_left _ _).trans i3, fun c hc h0 hsc => i4 c hc h0 (or_sub hsc ?_)⟩
      have hf := forced_closed hn hr hs hc h0 hsc
      rw [sub_pow]
      refine hf _ ((testBit_forced (lt64 hn hs)).2 ⟨v, h1, (next_facts hn hr hx).2.1, ?_⟩)
      rw [h2, testBit_pow]
      exact decide_eq_true (by rw [← h2])
theorem chron_cl {near : Nat → Nat} {n s : Nat} (hn : n ≤ 12) (hr : ∀ v, near v < 2 ^ n) (hs : s < 2 ^ n) : (chronL near (2 ^ n - s) s).2 = cl (forcedM near) n s := by
  have g := good_forced hr
  obtain ⟨h1, h2, h3, h4⟩ := chron_done hn hr (2 ^ n - s) s hs (by omega)
  have hc := cl_lt g hs
  refine (h4 _ hc (cl_closed g hs) cl_sub).antisymm (cl_least (fun t ht => ?_) h3)
  exact forced_closed hn hr (lt_of_sub ht h2) h2 (next_none (lt64 hn h2) h1) ht
theorem chron_check {near : Nat → Nat} {n : Nat} (hn : n ≤ 12) (hr : ∀ v, near v < 2 ^ n) : ∀ (k s : Nat), s < 2 ^ n →
    checkL n near s ((chronL near k s).1.map toS) = true ∧ wetL s ((chronL near k s).1.map toS) = (chronL near k s).2 := by
  intro k
  induction k with
  | zero => intro s _; exact ⟨rfl, rfl⟩
  | succ k ih =>
    intro s hs
    rw [chronL]
    cases hx : nextM near s with
    | none => exact ⟨rfl, rfl⟩
    | some v =>
      obtain ⟨h1, h2, h3, h4⟩ := one_force hn hr hx
      obtain ⟨i1, i2⟩ := ih (s ||| 2 ^ low (andNot (near v) s)) (Nat.or_lt_two_pow hs (Nat.pow_lt_pow_right (by decide) h4))
      have hv : v < n := bit_lt hs h1
      dsimp only
      generalize low (andNot (near v) s) = u at h2 h3 h4 i1 i2 ⊢
      simp only [List.map_cons]
      rw [checkL]
      have e1 : (toS (v, u)).f1.toNat = u := by show ((u : Nat) : Int).toNat = u; omega
      have e0 : (toS (v, u)).f0.toNat = v := by show ((v : Nat) : Int).toNat = v; omega
      have hok : forceOk n near s (toS (v, u)) := by
        unfold forceOk
        rw [e0, e1]
        refine ⟨?_, ?_, ?_, ?_, h1, h2⟩
        · show (0 : Int) ≤ ((v : Nat) : Int); omega
        · show ((v : Nat) : Int) ≤ n - 1; omega
        · show (0 : Int) ≤ ((u : Nat) : Int); omega
        · show ((u : Nat) : Int) ≤ n - 1; omega
      rw [if_pos hok, e1]
      refine ⟨i1, ?_⟩
      unfold wetL at i2 ⊢
      rw [List.foldl_cons, e1]
      exact i2

/-- A chain grows by a force. -/
def growN (c : List Nat) (p : Nat × Nat) : List Nat := if c.getLast? = some p.1 then c ++ [p.2] else c
def chN (C : List (Nat × Nat)) (v : Nat) : List Nat := C.foldl growN [v]
theorem fold_map (C : List (Nat × Nat)) : ∀ out : List (List Nat), C.foldl (fun out p => out.map (growN · p)) out = out.map (fun c => C.foldl growN c) := by
  induction C with
  | nil => intro out; simp
  | cons p C ih => intro out; rw [List.foldl_cons, ih, List.map_map]; rfl
theorem ord_split : ∀ (pre : List (Nat × Nat)) (s : Nat) (p : Nat × Nat) (D : List (Nat × Nat)), Ord s (pre ++ p :: D) → ∀ q ∈ pre, q.1 ≠ p.2
  | [], _, _, _, _, q, hq => by cases hq
  | r :: pre, s, p, D, h, q, hq => by
    obtain ⟨h1, h2, h3⟩ := h
    rcases List.mem_cons.1 hq with rfl | hq
    · intro e
      have := (ord_pos _ _ h3 p (by simp)).2
      rw [← e, Nat.testBit_or, h1] at this
      cases this
    · exact ord_split pre _ p D h3 q hq
theorem fold_isSome {v : Int} : ∀ (l : List (Nat × Nat)) (o : Option Nat), (o.isSome = true ∨ ∃ p ∈ l, (p.1 : Int) = v) → (l.foldl (nxtF v) o).isSome = true
  | [], o, h => by
    rcases h with h | ⟨p, hp, _⟩
    · exact h
    · cases hp
  | p :: l, o, h => by
    rw [List.foldl_cons]
    refine fold_isSome l _ ?_
    by_cases hc : (p.1 : Int) = v
    · exact .inl (by unfold nxtF; rw [if_pos hc]; rfl)
    · rcases h with h | ⟨q, hq, e⟩
      · exact .inl (by unfold nxtF; rw [if_neg hc]; exact h)
      · rcases List.mem_cons.1 hq with rfl | hq
        · exact absurd e hc
        · exact .inr ⟨q, hq, e⟩
theorem nodup_inj : ∀ {C : List (Nat × Nat)}, (C.map (·.1)).Nodup → ∀ p ∈ C, ∀ q ∈ C, p.1 = q.1 → p = q
  | [], _, p, hp, _, _, _ => by cases hp
  | r :: C, h, p, hp, q, hq, e => by
    rw [List.map_cons, List.nodup_cons] at h
    rcases List.mem_cons.1 hp with e1 | hp' <;> rcases List.mem_cons.1 hq with e2 | hq'
    · rw [e1, e2]
    · exact absurd (List.mem_map.2 ⟨q, hq', by rw [← e, e1]⟩ : r.1 ∈ C.map (·.1)) h.1
    · exact absurd (List.mem_map.2 ⟨p, hp', by rw [e, e2]⟩ : r.1 ∈ C.map (·.1)) h.1
    · exact nodup_inj h.2 p hp' q hq' e
theorem nxt_of {C : List (Nat × Nat)} (hs : (C.map (·.1)).Nodup) {p : Nat × Nat} (hp : p ∈ C) : nxt C (p.1 : Int) = some p.2 := by
  have h := fold_isSome (v := (p.1 : Int)) C none (.inr ⟨p, hp, rfl⟩)
  obtain ⟨u, hu⟩ := Option.isSome_iff_exists.1 h
  have hu' : nxt C (p.1 : Int) = some u := hu
  obtain ⟨q, hq, e1, e2⟩ := nxt_some hu'
  have := nodup_inj hs q hq p hp (by omega)
  rw [hu', ← e2, this]
theorem nxt_no {C : List (Nat × Nat)} {x : Nat} (h : ∀ q ∈ C, q.1 ≠ x) : nxt C (x : Int) = none := by
  cases e : nxt C (x : Int) with
  | none => rfl
  | some u =>
    obtain ⟨q, hq, e1, _⟩ := nxt_some e
    exact absurd (by omega) (h q hq)
theorem tail_no {C : List (Nat × Nat)} {x : Nat} (h : ∀ q ∈ C, q.1 ≠ x) (k : Nat) : tailF C k (x : Int) = [] := by
  cases k with
  | zero => rfl
  | succ k => rw [tailF, nxt_no h]
theorem grow_tail {C : List (Nat × Nat)} {s : Nat} (ho : Ord s C) (hs : (C.map (·.1)).Nodup) : ∀ (D pre : List (Nat × Nat)) (c : List Nat) (x k : Nat), C = pre ++ D → c.getLast? = some x → (∀ q ∈ pre, q.1 ≠ x) → D.length ≤ k →
    natsI (D.foldl growN c) = natsI c ++ tailF C k (x : Int)
  | [], pre, c, x, k, hC, hl, hp, hk => by
    rw [List.append_nil] at hC
    subst hC
    rw [tail_no hp, List.append_nil]; rfl
  | p :: D, pre, c, x, k, hC, hl, hp, hk => by
    have hC2 : C = (pre ++ [p]) ++ D := by rw [hC, List.append_assoc]; rfl
    rw [List.foldl_cons]
    have hpm : p ∈ C := by rw [hC]; simp
    rw [List.length_cons] at hk
    obtain ⟨k, rfl⟩ : ∃ j, k = j + 1 := ⟨k - 1, by omega⟩
    by_cases e : p.1 = x
    · have e1 : growN c p = c ++ [p.2] := by unfold growN; rw [hl, e, if_pos rfl]
      have hn := nxt_of hs hpm
      rw [e] at hn
      have hne := ord_ne ho p hpm
      rw [e1, tailF, hn]
      have := grow_tail ho hs D (pre ++ [p]) (c ++ [p.2]) p.2 k hC2 (by simp) (by
        intro q hq
        rcases List.mem_append.1 hq with hq | hq
        · exact ord_split pre s p D (by rw [← hC]; exact ho) q hq
        · rw [List.mem_singleton.1 hq]; exact hne) (by omega)
      rw [this]
      unfold natsI
      rw [List.map_append, List.append_assoc]
      rfl
    · have e1 : growN c p = c := by
        unfold growN
        rw [hl, if_neg]
        intro h; exact e (Option.some.inj h).symm
      rw [e1]
      exact grow_tail ho hs D (pre ++ [p]) c x (k + 1) hC2 hl (by
        intro q hq
        rcases List.mem_append.1 hq with hq | hq
        · exact hp q hq
        · rw [List.mem_singleton.1 hq]; exact e) (by omega)
theorem chain_nats {C : List (Nat × Nat)} {s : Nat} (ho : Ord s C) (hs : (C.map (·.1)).Nodup) (v : Nat) : chainI C (v : Int) = natsI (chN C v) := by
  unfold chainI chN
  rw [grow_tail ho hs C [] [v] v C.length rfl rfl (fun q hq => by cases hq) (Nat.le_refl _)]
  rfl

theorem chron_src {near : Nat → Nat} {n : Nat} (hn : n ≤ 12) (hr : ∀ v, near v < 2 ^ n) : ∀ (k s : Nat), s < 2 ^ n → ((chronL near k s).1.map (·.1)).Nodup ∧ ∀ p ∈ (chronL near k s).1, ¬ Sub (near p.1) s := by
  intro k
  induction k with
  | zero => intro s _; exact ⟨List.nodup_nil, fun p hp => by cases hp⟩
  | succ k ih =>
    intro s hs
    rw [chronL]
    cases hx : nextM near s with
    | none => exact ⟨List.nodup_nil, fun p hp => by cases hp⟩
    | some v =>
      obtain ⟨h1, h2, h3, h4⟩ := one_force hn hr hx
      obtain ⟨i1, i2⟩ := ih (s ||| 2 ^ low (andNot (near v) s)) (Nat.or_lt_two_pow hs (Nat.pow_lt_pow_right (by decide) h4))
      dsimp only
      generalize low (andNot (near v) s) = u at h2 h3 h4 i1 i2 ⊢
      have hsub : Sub (near v) (s ||| 2 ^ u) := fun i hi => by
        rw [Nat.testBit_or]
        cases hb : s.testBit i with
        | true => rfl
        | false =>
          have : (andNot (near v) s).testBit i = true := by rw [testBit_andNot, hi, hb]; rfl
          rw [h2] at this
          rw [this]; rfl
      refine ⟨?_, ?_⟩
      · rw [List.map_cons, List.nodup_cons]
        refine ⟨fun hm => ?_, i1⟩
        obtain ⟨q, hq, e⟩ := List.mem_map.1 hm
        have e' : q.1 = v := e
        exact i2 q hq (by rw [e']; exact hsub)
      · intro p hp
        rcases List.mem_cons.1 hp with rfl | hp
        · intro hsb
          have : (andNot (near v) s).testBit u = true := by rw [h2, testBit_pow]; exact decide_eq_true rfl
          obtain ⟨a1, a2⟩ := disj_andNot this
          rw [hsb u a1] at a2; cases a2
        · exact fun hsb => i2 p hp (hsb.trans (sub_or_left _ _))

/-- The chains of what is wet. -/
structure ChInv (near : Nat → Nat) (s0 wet : Nat) (out : List (List Nat)) : Prop where
  heads : out.map List.head? = (bitsOf s0).map some
  nodup : out.flatten.Nodup
  mem : ∀ x, x ∈ out.flatten ↔ wet.testBit x = true
  adj : ∀ c ∈ out, ∀ i (h : i + 1 < c.length), (near (c[i + 1])).testBit (c[i]) = true
  done : ∀ c ∈ out, ∀ x ∈ c.dropLast, Sub (near x) wet
theorem ChInv.start {near : Nat → Nat} {s : Nat} (hs : s < 2 ^ 64) : ChInv near s s ((bitsOf s).map fun v => [v]) where
  heads := by rw [List.map_map]; rfl
  nodup := by
    have : ((bitsOf s).map fun v => [v]).flatten = bitsOf s := by
      generalize bitsOf s = l
      induction l with
      | nil => rfl
      | cons a l ih => rw [List.map_cons, List.flatten_cons, ih]; rfl
    rw [this]; exact bitsOf_nodup s
  mem := fun x => by
    have : ((bitsOf s).map fun v => [v]).flatten = bitsOf s := by
      generalize bitsOf s = l
      induction l with
      | nil => rfl
      | cons a l ih => rw [List.map_cons, List.flatten_cons, ih]; rfl
    rw [this, mem_bitsOf]
    exact ⟨fun h => h.2, fun h => ⟨bit_lt hs h, h⟩⟩
  adj := fun c hc i h => by
    obtain ⟨v, _, rfl⟩ := List.mem_map.1 hc
    simp at h
  done := fun c hc x hx => by
    obtain ⟨v, _, rfl⟩ := List.mem_map.1 hc
    simp at hx
theorem adj_snoc {near : Nat → Nat} {c : List Nat} {u v : Nat} (ha : ∀ i (h : i + 1 < c.length), (near (c[i + 1])).testBit (c[i]) = true) (hl : c.getLast? = some u) (huv : (near v).testBit u = true) : ∀ i (h : i + 1 < (c ++ [v]).length), (near ((c ++ [v])[i + 1])).testBit ((c ++ [v])[i]) = true := by
  intro i h
  have hlen : (c ++ [v]).length = c.length + 1 := by simp
  by_cases h2 : i + 1 < c.length
  · have e1 : (c ++ [v])[i + 1] = c[i + 1] := List.getElem_append_left h2
    have e2 : (c ++ [v])[i] = c[i] := List.getElem_append_left (by omega)
    rw [e1, e2]; exact ha i h2
  · have e1 : (c ++ [v])[i + 1] = v := by
      rw [List.getElem_append_right (by omega)]
      simp
    have e2 : (c ++ [v])[i]'(by omega) = u := by
      rw [List.getElem_append_left (by omega)]
      rw [List.getLast?_eq_getElem?, List.getElem?_eq_getElem (by omega)] at hl
      have := Option.some.inj hl
      rw [← this]
      congr 1
      omega
    rw [e1, e2]; exact huv
theorem ChInv.step {near : Nat → Nat} {s wet u v : Nat} {out : List (List Nat)} (sym : ∀ a b, (near a).testBit b = true → (near b).testBit a = true) (h : ChInv near s wet out) (h1 : wet.testBit u = true) (h2 : andNot (near u) wet = 2 ^ v) (h3 : wet.testBit v = false) :
    ChInv near s (wet ||| 2 ^ v) (out.map (growN · (u, v))) := by
  have huv : (near u).testBit v = true := by
    have : (andNot (near u) wet).testBit v = true := by rw [h2, testBit_pow]; exact decide_eq_true rfl
    exact (disj_andNot this).1
  have hsub : Sub (near u) (wet ||| 2 ^ v) := fun i hi => by
    rw [Nat.testBit_or]
    cases hb : wet.testBit i with
    | true => rfl
    | false =>
      have : (andNot (near u) wet).testBit i = true := by rw [testBit_andNot, hi, hb]; rfl
      rw [h2] at this
      rw [this]; rfl
  obtain ⟨c, hc, huc⟩ := List.mem_flatten.1 ((h.mem u).2 h1)
  obtain ⟨A, B, rfl⟩ := List.append_of_mem hc
  have hnd := h.nodup
  rw [List.flatten_append, List.flatten_cons] at hnd
  have hlast : c.getLast? = some u := by
    have hne : c ≠ [] := List.ne_nil_of_mem huc
    have e := List.dropLast_concat_getLast hne
    have hu' := huc
    rw [← e] at hu'
    rcases List.mem_append.1 hu' with hu' | hu'
    · have := h.done c hc u hu' v huv
      rw [h3] at this; cases this
    · rw [List.getLast?_eq_some_getLast hne, List.mem_singleton.1 hu']
  obtain ⟨c', rfl⟩ : ∃ c', c = c' ++ [u] := by
    have hne : c ≠ [] := List.ne_nil_of_mem huc
    refine ⟨c.dropLast, ?_⟩
    have e := List.dropLast_concat_getLast hne
    rw [List.getLast?_eq_some_getLast hne] at hlast
    rw [Option.some.inj hlast] at e
    exact e.symm
  rw [List.nodup_append] at hnd
  obtain ⟨n1, n2, n3⟩ := hnd
  rw [List.nodup_append] at n2
  obtain ⟨n4, n5, n6⟩ := n2
  have same : ∀ (L : List (List Nat)), u ∉ L.flatten → L.map (growN · (u, v)) = L := by
    intro L hL
    conv => rhs; rw [← List.map_id L]
    refine List.map_congr_left fun d hd => ?_
    unfold growN
    rw [if_neg]; · rfl
    intro e
    apply hL
    refine List.mem_flatten.2 ⟨d, hd, List.mem_of_getLast? e⟩
  have eA := same A (fun hm => n3 u hm u (by simp) rfl)
  have eB := same B (fun hm => n6 u (by simp) u hm rfl)
  have eC : growN (c' ++ [u]) (u, v) = c' ++ [u] ++ [v] := by unfold growN; rw [hlast, if_pos rfl]
  have eq : (A ++ (c' ++ [u]) :: B).map (growN · (u, v)) = A ++ (c' ++ [u] ++ [v]) :: B := by
    rw [List.map_append, List.map_cons, eA, eB, eC]
  have hmem := h.mem
  have hv : v ∉ (A ++ (c' ++ [u]) :: B).flatten := fun hm => by
    have := (hmem v).1 hm
    rw [h3] at this; cases this
  rw [eq]
  refine ⟨?_, ?_, ?_, ?_, ?_⟩
  · have := h.heads
    rw [← this, List.map_append, List.map_append, List.map_cons, List.map_cons]
    congr 2
    cases c' <;> rfl
  · have hp : (A ++ (c' ++ [u] ++ [v]) :: B).flatten.Perm (v :: (A ++ (c' ++ [u]) :: B).flatten) := by
      have := List.perm_middle (a := v) (l₁ := A.flatten ++ (c' ++ [u])) (l₂ := B.flatten)
      simp only [List.flatten_append, List.flatten_cons, List.append_assoc, List.cons_append, List.nil_append] at this ⊢
      exact this
    rw [hp.nodup_iff, List.nodup_cons]
    exact ⟨hv, h.nodup⟩
  · intro x
    rw [Nat.testBit_or, Bool.or_eq_true, ← hmem x, testBit_pow, decide_eq_true_iff]
    simp only [List.flatten_append, List.flatten_cons, List.mem_append, List.mem_singleton]
    constructor
    · rintro (h | (((h | h) | h) | h))
      · exact .inl (.inl h)
      · exact .inl (.inr (.inl (.inl h)))
      · exact .inl (.inr (.inl (.inr h)))
      · exact .inr h.symm
      · exact .inl (.inr (.inr h))
    · rintro ((h | ((h | h) | h)) | h)
      · exact .inl h
      · exact .inr (.inl (.inl (.inl h)))
      · exact .inr (.inl (.inl (.inr h)))
      · exact .inr (.inr h)
      · exact .inr (.inl (.inr h.symm))
  · intro d hd i hi
    rcases List.mem_append.1 hd with hd | hd
    · exact h.adj d (List.mem_append_left _ hd) i hi
    · rcases List.mem_cons.1 hd with rfl | hd
      · exact adj_snoc (fun i hi => h.adj _ hc i hi) hlast (sym u v huv) i hi
      · exact h.adj d (List.mem_append_right _ (List.mem_cons_of_mem _ hd)) i hi
  · intro d hd x hx
    rcases List.mem_append.1 hd with hd | hd
    · exact (h.done d (List.mem_append_left _ hd) x hx).trans (sub_or_left _ _)
    · rcases List.mem_cons.1 hd with rfl | hd
      · rw [List.dropLast_concat] at hx
        rcases List.mem_append.1 hx with hx | hx
        · refine (h.done _ hc x ?_).trans (sub_or_left _ _)
          rw [List.dropLast_concat]; exact hx
        · rw [List.mem_singleton.1 hx]; exact hsub
      · exact (h.done d (List.mem_append_right _ (List.mem_cons_of_mem _ hd)) x hx).trans (sub_or_left _ _)
theorem ChInv.run {near : Nat → Nat} {n s0 : Nat} (hn : n ≤ 12) (hr : ∀ v, near v < 2 ^ n) (sym : ∀ a b, (near a).testBit b = true → (near b).testBit a = true) : ∀ (k s : Nat) (out : List (List Nat)), s < 2 ^ n → ChInv near s0 s out →
    ChInv near s0 (chronL near k s).2 (out.map fun c => (chronL near k s).1.foldl growN c) := by
  intro k
  induction k with
  | zero => intro s out _ h; simp only [chronL, List.foldl_nil, List.map_id']; exact h
  | succ k ih =>
    intro s out hs h
    rw [chronL]
    cases hx : nextM near s with
    | none => simp only [List.foldl_nil, List.map_id']; exact h
    | some v =>
      obtain ⟨h1, h2, h3, h4⟩ := one_force hn hr hx
      have := ih _ _ (Nat.or_lt_two_pow hs (Nat.pow_lt_pow_right (by decide) h4)) (h.step sym h1 h2 h3)
      rw [List.map_map] at this
      exact this
theorem ChInv.bound {near : Nat → Nat} {s0 wet n : Nat} {out : List (List Nat)} (h : ChInv near s0 wet out) (hw : wet < 2 ^ n) : ∀ c ∈ out, c ≠ [] ∧ c.Nodup ∧ c.length ≤ n ∧ ∀ x ∈ c, x < n := by
  intro c hc
  have hlt : ∀ x ∈ c, x < n := fun x hx => bit_lt hw ((h.mem x).1 (List.mem_flatten.2 ⟨c, hc, hx⟩))
  have hnd : c.Nodup := by
    obtain ⟨A, B, rfl⟩ := List.append_of_mem hc
    have := h.nodup
    rw [List.flatten_append, List.flatten_cons, List.nodup_append, List.nodup_append] at this
    exact this.2.1.1
  refine ⟨?_, hnd, nodup_lt hnd hlt, hlt⟩
  rintro rfl
  have : (none : Option Nat) ∈ (bitsOf s0).map some := by rw [← h.heads]; exact List.mem_map.2 ⟨[], hc, rfl⟩
  obtain ⟨v, _, e⟩ := List.mem_map.1 this
  cases e
theorem ChInv.length {near : Nat → Nat} {s0 wet : Nat} {out : List (List Nat)} (h : ChInv near s0 wet out) : out.length = (bitsOf s0).length := by
  have := congrArg List.length h.heads
  simpa using this
/-- The chains that Chains makes of a set. -/
def chainsN (near : Nat → Nat) (n s : Nat) : List (List Nat) := (bitsOf s).map (chN (chronL near (2 ^ n - s) s).1)
theorem chains_inv {near : Nat → Nat} {n s : Nat} (hn : n ≤ 12) (hr : ∀ v, near v < 2 ^ n) (sym : ∀ a b, (near a).testBit b = true → (near b).testBit a = true) (hs : s < 2 ^ n) : ChInv near s (cl (forcedM near) n s) (chainsN near n s) := by
  have := ChInv.run hn hr sym (2 ^ n - s) s _ hs (ChInv.start (lt64 hn hs))
  rw [chron_cl hn hr hs, List.map_map] at this
  exact this
theorem chains_I {near : Nat → Nat} {n s : Nat} (hn : n ≤ 12) (hr : ∀ v, near v < 2 ^ n) (hs : s < 2 ^ n) : (natsI (bitsOf s)).map (chainI (chronL near (2 ^ n - s) s).1) = (chainsN near n s).map natsI := by
  unfold natsI chainsN
  rw [List.map_map, List.map_map]
  refine List.map_congr_left fun v _ => ?_
  exact chain_nats (chronL_ord hn hr _ s hs).1 (chron_src hn hr _ s hs).1 v
theorem chainsX_of {n t : Nat} {l : List S48} {s : List Int} (hg : GOk n l (nearOf l)) (hb : bothM (n : Int) l s = some (⟨n, nearOf l⟩, t)) (ht : t < 2 ^ n) : chainsX (n : Int) l s = if cl (forcedM (nearOf l)) n t = full n then ((chainsN (nearOf l) n t).map natsI, 0) else ([], 6) := by
  have hs : s = natsI (bitsOf t) := by
    unfold bothM at hb
    obtain ⟨g', h1, h2⟩ := Option.bind_eq_some_iff.1 hb
    obtain ⟨t', h3, h4⟩ := Option.map_eq_some_iff.1 h2
    cases h4
    exact (setM_some (by have := hg.le; show n ≤ 64; omega) h3).2
  unfold chainsX
  rw [hb]
  show (if (chronL (nearOf l) (2 ^ n - t) t).2 = full n then _ else _) = _
  rw [chron_cl hg.le hg.lt ht, hs]
  split
  · show (((natsI (bitsOf t)).map (chainI (chronL (nearOf l) (2 ^ n - t) t).1)), (0 : Int)) = _
    rw [chains_I hg.le hg.lt ht]
  · rfl
theorem rd_M {M : List (List Nat)} {i : Nat} (h : i < M.length) : rd_L3 (M.map natsI) (i : Int) = natsI M[i] := by
  unfold rd_L3
  rw [Int.toNat_natCast, List.getD_eq_getElem?_getD, List.getElem?_map, List.getElem?_eq_getElem h]
  rfl
theorem last_rd {c : List Nat} (h : c ≠ []) (hl : c.length ≤ 1000) : wrap64 (((natsI c).length : Int) - 1) = ((c.length - 1 : Nat) : Int) ∧ rd (natsI c) ((c.length - 1 : Nat) : Int) = ((c.getLast h : Nat) : Int) := by
  have hp := List.length_pos_iff.2 h
  refine ⟨by rw [natsI_length]; unfold wrap64; omega, ?_⟩
  rw [rd_nats (by omega), List.getLast_eq_getElem]
end Go.Proofs.YtpbeaaihdmfnlaaDoor.P

/- ### Wy -/
/- Chains. -/
namespace Go.Proofs.YtpbeaaihdmfnlaaDoor.H
open Go Go.RowKit Go.Shelf Go.Proofs.YtpbeaaihdmfnlaaDoor.M Go.Proofs.YtpbeaaihdmfnlaaDoor.G Go.Proofs.YtpbeaaihdmfnlaaDoorW.PrintWords
attribute [local go_sem] Oper.semAt_some wide_fn run_map107 eqA108
attribute [local go_sem ↓ high] loadAt81 storeAt81
attribute [local go_sem] rowOk_drew cellsAt_drew run_loadRow run_storeRow

theorem own_same3 {W W' : World} {b n : Nat} {D : DataW Unit} (h : W.ownsMap Tryd.prog 3 (plainElem (H := Unit) Tryd.prog 3) b n D) (hb : W'.heap[b]? = W.heap[b]?) : W'.ownsMap Tryd.prog 3 (plainElem (H := Unit) Tryd.prog 3) b n D := by
  obtain ⟨es, clock, h1, h2⟩ := h
  exact ⟨es, clock, hb.trans h1, h2⟩

theorem chainsX_bad {n : Int} {l : List S48} {s : List Int} {g : Gr} {t : Nat} (h : bothM n l s = some (g, t)) (h2 : (chronL g.near (2 ^ g.n - t) t).2 ≠ full g.n) : chainsX n l s = ([], 6) := by unfold chainsX; rw [h]; exact if_neg h2
theorem chainsX_ok {n : Int} {l : List S48} {s : List Int} {g : Gr} {t : Nat} (h : bothM n l s = some (g, t)) (h2 : (chronL g.near (2 ^ g.n - t) t).2 = full g.n) : chainsX n l s = (s.map (chainI (chronL g.near (2 ^ g.n - t) t).1), 0) := by unfold chainsX; rw [h]; exact if_pos h2
theorem intsV_snoc (l : List Int) (x : Int) : intsV l ++ [.int .i64 x] = intsV (l ++ [x]) := by simp [intsV]
theorem tailF_none {C : List (Nat × Nat)} {x : Int} (h : nxt C x = none) (k : Nat) : tailF C k x = [] := by
  cases k with
  | zero => rfl
  | succ k => rw [tailF, h]

theorem LL.add {N : Nat} {W2 W3 : World} {v u : Value} {xs : List (List Int)} {l : List Int} (hLL : LL (fun _ => True) W2 N v xs) (hNB : N ≤ W2.heap.size) (hb : Below W2.heap.size W2 W3) (hu : W3.ownsRow W2.heap.size 3 1 u l.length (intsV l)) :
    ∃ inner, (W3.alloc (.cells #[u] 24)).ownsRow N 24 1 v xs.length inner ∧ u.oneCell' = true ∧ (W3.alloc (.cells #[u] 24)).cell? ⟨W3.heap.size, 0, none⟩ = some u ∧
      ∀ v1 w1, w1.ownsRow N 24 1 v1 (xs.length + 1) (inner ++ [u]) → (W3.alloc (.cells #[u] 24)).grownBy w1 v.ownBlock → (v1.ownBlock = v.ownBlock ∨ v1.ownBlock = some (W3.alloc (.cells #[u] 24)).heap.size) → LL (fun _ => True) w1 N v1 (xs ++ [l]) ∧ Below N W2 w1 := by
  have hs3 := hb.size
  have hown := hLL.own
  obtain ⟨W6, hW6⟩ : ∃ W6, W3.alloc (.cells #[u] 24) = W6 := ⟨_, rfl⟩
  have hn6 : W6.heap[W3.heap.size]? = some (.cells #[u] 24) := by rw [← hW6]; exact World.alloc_heap_new _ _
  have hs6 : W6.heap.size = W3.heap.size + 1 := by rw [← hW6]; exact World.size_alloc _ _
  have hb6 : Below W3.heap.size W3 W6 := by rw [← hW6]; exact (Below.refl _ _).alloc (Nat.le_refl _) _
  have hb26 : Below W2.heap.size W2 W6 := hb.trans (hb6.mono hs3)
  have h1 : LL (fun k => k < W2.heap.size) W2 N v xs := Kd.S_mono (Kd.S_bound hLL) (fun k hk => hk.2.2.1)
  have h2 : LL (fun k => k < W2.heap.size) W6 N v xs := Kd.S_move h1 (fun k hk => hb26.block k hk)
  have h3 : LL (fun k => True ∧ ¬ (W2.heap.size ≤ k ∧ k < W6.heap.size)) W6 N v xs := Kd.S_mono h2 (fun k hk => ⟨trivial, fun h => by omega⟩)
  have hu5 : Kd.R (Kd.int .i64) 3 W3 N (fun k => W2.heap.size ≤ k ∧ k < W6.heap.size) u l := Kd.R_lower (Kd.R_mono (Kd.R_bound (resL_ints hu)) (fun k hk => ⟨hk.2.1, by have := hk.2.2.1; omega⟩)) hNB
  have hu6 : Kd.R (Kd.int .i64) 3 W6 N (fun k => W2.heap.size ≤ k ∧ k < W6.heap.size) u l := Kd.R_below hu5 hb6
  obtain ⟨inner, hrow, hnext⟩ := LL.snoc h3 hu6 (fun k hk => ⟨trivial, fun e => by
    have := (hown k e.symm).2.2.1
    omega⟩) (fun k _ => trivial)
  rw [hW6]
  refine ⟨inner, hrow, row_one hu, one_cell hn6, fun v1 w1 ho hg hat => ⟨hnext v1 w1 ho hg ?_, ?_⟩⟩
  · rcases hat with h | h
    · exact .inl h
    · exact .inr ⟨_, h, Nat.le_refl _⟩
  · exact (hb26.mono hNB).grown hg (by omega) (fun k e => (hown k e).2.1)

set_option maxHeartbeats 4000000 in
set_option maxRecDepth 100000 in
theorem chains_any (n : Int) (A : Option Addr) (c : Nat) (l : List S48) (A2 : Option Addr) (c2 : Nat) (s : List Int) (w : World) (hl : Kd.C k48 w A l.length l) (hc : l.length ≤ c) (hlen : fitL l) (hn : inI n) (hs : Kd.C (Kd.int .i64) w A2 s.length s) (hc2 : s.length ≤ c2) (hlen2 : fitL s) (ht : Tab w) : Calls Tryd.prog 53 #[.int .i64 n, .slice A l.length c, .slice A2 s.length c2] w fun e w' => ∃ v, e = .returned (.tuple #[v, .int .i64 (chainsX n l s).2]) ∧ Kd.S (Kd.slice 3 (Kd.int .i64)) 24 w' w.heap.size (fun _ => True) v (chainsX n l s).1 ∧ Below w.heap.size w w' := by
  have h1w : 1 < w.heap.size := (ht 0 (by decide)).2
  refine (callsIn_wide (n := 9)).1 ?_
  refine callsIn_of_wp Tryd.func53 rfl trivial ?_
  simp only [Tryd.ntmps53, List.size_toArray, List.length_cons, List.length_nil, Nat.reduceAdd, Nat.reduceSub, Array.replicate_succ, Array.replicate_zero, List.push_toArray, List.append_toArray, List.nil_append, List.cons_append]
  have HL := Lib.hid hl
  have HS := Lib.hid hs
  have HT := Lib.hid ht
  unfold fitL at hlen hlen2
  obtain ⟨hn1, hn2⟩ := hn
  clear hl hs ht
  gi_wp2_with fail
  refine (callsIn_wide.2 (both_any n A c l A2 c2 s _ HL.out hc hlen hn1 hn2 HS.out hc2 hlen2)).mono ?_
  rintro e w1 ⟨x, near, b, t, rfl, hg, hb1⟩
  have hsz := hb1.size
  obtain ⟨m0, m1, m2⟩ := lay1 w1 (.cells #[.int .i64 0, .int .u64 0, .int .u64 0, .int .u64 0, .int .u64 0, .int .u64 0, .int .u64 0, .int .u64 0, .int .u64 0, .int .u64 0, .int .u64 0, .int .u64 0, .int .u64 0] 81)
  obtain ⟨y1, y2, y3, y4⟩ := setRow_two (B := w1.heap.size) (cs := cellsI x near) m0 (Nat.le_refl _)
  rw [m1] at y3
  have bW2 := hb1.trans ((m2.trans y4).mono (B' := w.heap.size) (by omega))
  have hrf := rowFree_of m0 rfl
  have hag := aggOk_cells x near
  have hr1 := rowOk_any y1 rfl
  have hr2 := cellsAt_of y1
  have HG := Lib.hid hg
  have Y1 := Lib.hid y1
  have BW := Lib.hid bW2
  have HTW := Lib.hid (tab_below bW2 h1w HT.out)
  clear hb1 m0 m1 m2 y1 y2 y4 bW2 hg
  cases b with
  | false =>
    gi_wp2_with fail
    have hnn : bothM n l s = none := by
      rcases HG.out with ⟨h, _⟩ | ⟨g, _, h, _⟩
      · exact h
      · cases h
    refine bodyPost_ret (v := .tuple #[.slice none 0 0, .int .i64 2]) (results_tmp2 (t := 6) (u := 7) rfl _ _ _) rfl ?_
    unfold chainsX; rw [hnn]
    exact ⟨_, rfl, Kd.S_nil _ _ _ _ _, BW.out⟩
  | true =>
    obtain ⟨g, hg, hcg, hlt⟩ : ∃ g, bothM n l s = some (g, t) ∧ cellsI x near = g.cells ∧ t < 2 ^ g.n := by
      rcases HG.out with ⟨_, h⟩ | ⟨g, h1, _, h2, h3⟩
      · cases h
      · exact ⟨g, h1, h2, h3⟩
    have hok : g.Ok := by
      unfold bothM at hg
      obtain ⟨g', h1, h2⟩ := Option.bind_eq_some_iff.1 hg
      obtain ⟨t', _, h4⟩ := Option.map_eq_some_iff.1 h2
      cases h4
      exact (graphM_ok h1).1
    have hle := hok.le
    have hpos := hok.pos
    have hst : s = natsI (bitsOf t) := by
      unfold bothM at hg
      obtain ⟨g', h1, h2⟩ := Option.bind_eq_some_iff.1 hg
      obtain ⟨t', h3, h4⟩ := Option.map_eq_some_iff.1 h2
      cases h4
      exact (P.setM_some (by omega) h3).2
    have hsv : ∀ i, i < s.length → ∃ v : Nat, rd s (i : Int) = v ∧ v < 64 := by
      intro i hi
      rw [P.rd_at hi]
      have hm : s[i] ∈ natsI (bitsOf t) := by rw [← hst]; exact List.getElem_mem hi
      obtain ⟨v, hv, e⟩ := List.mem_map.1 hm
      exact ⟨v, e.symm, (mem_bitsOf.1 hv).1⟩
    have HSV := Lib.hid hsv
    have hsl64 : s.length ≤ 64 := by rw [hst, P.natsI_length]; exact Nat.le_trans (List.length_filter_le _ _) (by simp)
    have hrk := chronL_ord hle hok.near (2 ^ g.n - t) t hlt
    have HRK := Lib.hid hrk
    have HGG := Lib.hid hg
    have HCG := Lib.hid hcg
    have HLT := Lib.hid hlt
    have HOK := Lib.hid hok
    clear hg hcg hlt hok hst hsv hrk
    gi_wp2_with fail
    refine (callsIn_wide.2 (chronicle_any' g HOK.out _ HCG.out t HLT.out _ HTW.out)).mono ?_
    rintro e w2 ⟨v, rfl, hrow, hb2⟩
    rw [y3] at hb2
    have bW3 := BW.out.trans (hb2.mono (B' := w.heap.size) (by omega))
    have hsz2 := hb2.size
    rw [y3] at hsz2
    obtain ⟨C, hC⟩ : ∃ C, (chronL g.near (2 ^ g.n - t) t).1 = C := ⟨_, rfl⟩
    obtain ⟨E, hE⟩ : ∃ E, (chronL g.near (2 ^ g.n - t) t).2 = E := ⟨_, rfl⟩
    have hCl : C.length ≤ 4096 := by
      have h1 := chronL_len g.near (2 ^ g.n - t) t
      have h2 : 2 ^ g.n ≤ 4096 := Nat.pow_le_pow_right (by decide) hle
      rw [hC] at h1; omega
    rw [hC] at hrow
    have hrk := HRK.out
    rw [hC] at hrk
    have HCK := Lib.hid hrk
    have HC := Lib.hid hC
    have HE := Lib.hid hE
    have HROW := Lib.hid hrow
    have HB2 := Lib.hid bW3
    have g8 := (hb2.block w1.heap.size (by omega)).trans Y1.out
    have r8 := rowOk_any g8 rfl
    have c8 := cellsAt_of g8
    obtain ⟨A3, c3, hv⟩ := own_slice hrow
    subst hv
    rw [hE]
    clear hC hE hb2 bW3 hr1 hr2 hrf hag hrow hrk g8
    gi_wp2_with fail
    rw [HCG.out]
    refine (callsIn_wide.2 (all_any g HOK.out _)).mono ?_
    rintro e w3 ⟨rfl, hb3⟩
    have bW4 := HB2.out.trans (hb3.mono (B' := w.heap.size) (by omega))
    have hrow4 := row_below HROW.out hb3 (Nat.le_refl _)
    have hsz3 := hb3.size
    have HB3 := Lib.hid bW4
    have HROW3 := Lib.hid hrow4
    clear hb3 bW4 hrow4 r8 c8
    by_cases hEq : E = full g.n
    · subst hEq
      obtain ⟨M, hM⟩ : ∃ M, w3.heap.size = M := ⟨_, rfl⟩
      gi_wp2_with fail
      obtain ⟨f0, f1, f2⟩ := lay1 w3 (.map #[] 0)
      have own0 := World.ownsMap_made (H := Unit) w3 Tryd.prog 3 (plainElem (H := Unit) Tryd.prog 3)
      rw [hM] at f0 f1 f2 own0
      generalize w3.alloc (.map #[] 0) = W0 at f0 f1 f2 own0 ⊢
      have FB := Lib.hid f2
      have OW := Lib.hid own0
      clear f0 f2 own0
      gi_loopg [45] C.length (fun k s45 W => ∃ i : Nat, s45 = .int .i64 (i : Int) ∧ i ≤ C.length ∧ C.length ≤ k + i ∧ Below M w3 W ∧ W.ownsMap Tryd.prog 3 (plainElem (H := Unit) Tryd.prog 3) M i (mapD (C.take i)) ∧ M + 1 ≤ W.heap.size)
      case atStart => exact ⟨0, rfl, by omega, by omega, FB.out, OW.out, by omega⟩
      case round =>
        obtain ⟨i, rfl, hi2, hk, hB, hO, hsW⟩ := hrel
        have HB := Lib.hid hB
        have HO := Lib.hid hO
        clear hB hO
        by_cases hil : i < C.length
        · obtain ⟨g', cap, hsl, hgN, hgl, hc0, hc1⟩ := row_pair HROW3.out i hil
          cases hsl
          have hgw : g' < M := by rw [← hM]; exact hgl
          have d0 := (cell_of_heap (HB.out.block g' hgw) ⟨g', i * 2, none⟩ rfl).trans hc0
          have d1 := (cell_of_heap (HB.out.block g' hgw) ⟨g', i * 2 + 1, none⟩ rfl).trans hc1
          have hCi : C.getD i (0, 0) = C[i] := by simp [List.getD_eq_getElem?_getD, List.getElem?_eq_getElem hil]
          have hmem := HCK.out.2 C[i] (List.getElem_mem hil)
          have hneq := ord_ne HCK.out.1 C[i] (List.getElem_mem hil)
          obtain ⟨a, ha⟩ : ∃ a, (C.getD i (0, 0)).1 = a := ⟨_, rfl⟩
          obtain ⟨b, hb⟩ : ∃ b, (C.getD i (0, 0)).2 = b := ⟨_, rfl⟩
          rw [ha] at d0
          rw [hb] at d1
          have hpair : C[i] = (a, b) := by rw [← hCi, ← ha, ← hb]
          rw [hpair] at hmem hneq
          have hab : ((a : Int) == 0 && (b : Int) == 0) = false := by
            cases h0 : ((a : Int) == 0) with
            | false => rfl
            | true =>
              have h1 : a = 0 := by simpa using h0
              rw [Bool.true_and, beq_eq_false_iff_ne]
              have := hneq
              simp only at this
              omega
          have ha12 : a < 4096 := by have := hmem.1; simp only at this; omega
          have hb12 : b < 4096 := by have := hmem.2; simp only at this; omega
          have hI0 : (0 : Int) ≤ (i : Int) := by omega
          have hI1 : (i : Int) < (C.length : Int) := by omega
          have own4 := HO.out.alloc (Obj.cells #[Value.int IntKind.i64 (a : Int), Value.int IntKind.i64 (b : Int)] 108)
          have HP := Lib.hid hpair
          clear hc0 hc1 ha hb hCi hmem hneq hpair
          gi_wp2_with (gi_at_mapUpdate; refine wpListIn_mapUpdate_own _ rfl _ _ _ 107 rfl 3 3 (Maps.int_keyed Tryd.underlying3) Tryd.underlying107 _ M i _ rfl own4 (by simp only [maxLen]; omega) _ _ _ rfl rfl (Maps.keyOf_int_mk Tryd.underlying3 (wf_i64 a ha12)) _ [] (plainElem_int Tryd.underlying3 (wf_i64 b hb12)) ?_; intro w4 hown5 hg5)
          have hb4 := (HB.out.alloc (by omega) (Obj.cells #[Value.int IntKind.i64 (a : Int), Value.int IntKind.i64 (b : Int)] 108)).grown hg5 (by simp only [World.size_alloc]; omega) (fun k e => by cases e; omega)
          have hs4 := hg5.size
          simp only [World.size_alloc] at hs4
          have HB4 := Lib.hid hb4
          have HO4 := Lib.hid hown5
          clear hb4 hown5 hg5 own4
          gi_roundg (C.length - (i + 1))
          case measure => omega
          case rel =>
            refine ⟨i + 1, by simp, by omega, by omega, HB4.out, ?_, by omega⟩
            rw [List.take_succ_eq_append_getElem hil, HP.out, mapD_snoc]
            exact HO4.out
        · have hiC : i = C.length := by omega
          subst hiC
          obtain ⟨N, hN⟩ : ∃ N, wr.heap.size = N := ⟨_, rfl⟩
          have hown := HO.out
          rw [List.take_length] at hown
          have HM := Lib.hid hown
          clear hown
          obtain ⟨W1, hW1⟩ : ∃ W1, W1 = wr := ⟨_, rfl⟩
          subst hW1
          gi_wp2_with fail
          gi_loopg [16, 60] s.length (fun k s16 s60 W => ∃ i : Nat, s60 = .int .i64 (i : Int) ∧ i ≤ s.length ∧ s.length ≤ k + i ∧ Below N W1 W ∧ LL (fun _ => True) W N s16 ((s.take i).map (chainI C)))
          case atStart => exact ⟨0, rfl, by omega, by omega, Below.refl _ _, Kd.S_nil _ _ _ _ _⟩
          case round =>
            obtain ⟨i, rfl, hi2, hk, hB5, hLL⟩ := hrel
            have HB5 := Lib.hid hB5
            have HLL := Lib.hid hLL
            clear hB5 hLL
            by_cases hil : i < s.length
            · obtain ⟨v, hv, hv64⟩ := HSV.out i hil
              have hI0 : (0 : Int) ≤ (i : Int) := by omega
              have hI1 : (i : Int) < (s.length : Int) := by omega
              obtain ⟨ad, e0, hx⟩ := Kd.at_int HS.out (i : Int) hI0 hI1
              cases e0
              rw [Int.toNat_natCast, hv] at hx
              have q3 := (HB3.out.cell (World.block_lt_of_cell? w _ hx)).trans hx
              have l3 := World.block_lt_of_cell? _ _ q3
              rw [hM] at l3
              have q4 := (HB.out.cell l3).trans q3
              have l4 := World.block_lt_of_cell? _ _ q4
              rw [hN] at l4
              have d0 := (HB5.out.cell l4).trans q4
              clear q3 l3 q4 l4 hx
              obtain ⟨W2, hW2⟩ : ∃ W2, W2 = wr := ⟨_, rfl⟩
              subst hW2
              have hs5 := HB5.out.size
              have own6 := (own_same3 HM.out (HB5.out.block M (by omega))).alloc (Obj.cells #[Value.int IntKind.i64 (v : Int)] 3)
              gi_wp2_with (gi_at_lookup; refine wpListIn_lookup_own_ok_int _ rfl _ _ 107 rfl 3 3 .i64 (Maps.int_keyed Tryd.underlying3) Tryd.underlying107 Tryd.underlying3 (zero3 _) M C.length (mapD C) rfl own6 _ _ rfl (Maps.keyOf_int_mk Tryd.underlying3 (wf_i64 v (by omega))) ?_; intro cc hat hwc; rw [mapD_has])
              have hcc : ∀ u : Nat, nxt C (v : Int) = some u → cc = (u : Int) := fun u hu => by
                rw [mapD_at hu] at hat
                injection hat with hat
                injection hat with _ hat
                exact hat.symm
              have row6 := World.ownsRow_lit (e := 3) (size := 1) W2 #[Value.int .i64 (v : Int)] 1 (Nat.le_refl _) (by decide) rfl
              have bel6 := (Below.refl W2.heap.size W2).alloc (Nat.le_refl _) (Obj.cells #[Value.int IntKind.i64 (v : Int)] 3)
              generalize W2.alloc (Obj.cells #[Value.int IntKind.i64 (v : Int)] 3) = W6 at row6 bel6 own6 ⊢
              have HR6 := Lib.hid row6
              have HBe := Lib.hid bel6
              have HCC := Lib.hid hcc
              clear row6 bel6 own6 hat hwc hcc
              gi_loopg [19, 20, 21] C.length (fun k s19 s20 s21 W => ∃ (x : Nat) (acc : List Int) (cx : Int), s20 = .int .i64 cx ∧ s21 = .bool (nxt C (x : Int)).isSome ∧ (∀ u : Nat, nxt C (x : Int) = some u → cx = (u : Int)) ∧ x < 4096 ∧ C.length ≤ k + rk C (x : Int) ∧ acc.length + k = C.length + 1 ∧
                W.ownsRow W2.heap.size 3 1 s19 acc.length (intsV acc) ∧ Below W2.heap.size W2 W ∧ acc ++ tailF C k (x : Int) = chainI C (v : Int))
              case atStart => exact ⟨v, [(v : Int)], cc, rfl, rfl, HCC.out, by omega, by omega, by simp; omega, HR6.out, HBe.out, rfl⟩
              case round =>
                obtain ⟨x, acc, cx, rfl, rfl, hcx, hx4, hrk, hal, hrow, hbe, hch⟩ := hrel
                have HCX := Lib.hid hcx
                have HRO := Lib.hid hrow
                have HBI := Lib.hid hbe
                have HCH := Lib.hid hch
                clear hcx hrow hbe hch
                cases hnx : nxt C (x : Int) with
                | none =>
                  have hfin : acc = chainI C (v : Int) := by rw [← HCH.out, tailF_none hnx, List.append_nil]
                  have hro := HRO.out
                  obtain ⟨A9, n9, k9, rfl⟩ := row_slice hro
                  obtain ⟨inner, ho, h1, hc6, hnext⟩ := LL.add HLL.out (by omega) HBI.out hro
                  obtain ⟨i0, hi, hz0, hz1, hz2⟩ := info_parts info24
                  have hslen : ((s.take i).map (chainI C)).length = i := by rw [List.length_map, List.length_take]; omega
                  rw [hslen] at ho hnext
                  rw [Option.isSome_none]
                  have HN := Lib.hid hnext
                  have HFI := Lib.hid hfin
                  have hbs := HBI.out.size
                  clear hro hnext hfin hslen
                  gi_wp2_with (gi_at_builtin; refine wpListIn_append_own_at _ rfl _ _ 28 rfl N 24 i0 (.slice none 0 0) 1 24 Tryd.underlying28 hi hz0 hz1 hz2 rfl (by decide) u16 i inner rfl ho ⟨wr.heap.size, 0, none⟩ 1 1 [.slice A9 n9 k9] rfl rfl (fun j y hj => by
                    rcases j with _ | j
                    · simp only [List.getElem?_cons_zero, Option.some.injEq] at hj
                      subst hj
                      show World.cell? _ (Addr.add ⟨wr.heap.size, 0, none⟩ 0) = _
                      have e : (Addr.add ⟨wr.heap.size, 0, none⟩ 0) = ⟨wr.heap.size, 0, none⟩ := by simp [Addr.add]
                      rw [e]; exact hc6
                    · simp at hj) (fun y hy => by obtain rfl := List.mem_singleton.1 hy; exact h1) (by unfold maxLen; omega) (by omega) (by simp; omega) ?_; intro v' w4 hown' hgrow _ hat2)
                  obtain ⟨hL2, hb2⟩ := HN.out v' w4 hown' hgrow hat2
                  have HL2 := Lib.hid hL2
                  have HBN := Lib.hid hb2
                  clear hown' hgrow hat2 hL2 hb2 ho hc6
                  gi_roundg (s.length - (i + 1))
                  case measure => omega
                  case rel =>
                    refine ⟨i + 1, by simp, by omega, by omega, HB5.out.trans HBN.out, ?_⟩
                    have e1 : s[i] = (v : Int) := by rw [← P.rd_at hil]; exact hv
                    rw [List.take_succ_eq_append_getElem hil, List.map_append, List.map_cons, List.map_nil, e1, ← HFI.out]
                    exact HL2.out
                | some u =>
                  have hcu := HCX.out u hnx
                  subst hcu
                  have hlt := nxt_rk HCK.out.1 hnx
                  have hle2 := rk_le C (u : Int)
                  have hu12 : u < 4096 := by
                    obtain ⟨p, hp, _, rfl⟩ := nxt_some hnx
                    have := (HCK.out.2 p hp).2
                    omega
                  obtain ⟨k', rfl⟩ : ∃ k', gk = k' + 1 := ⟨gk - 1, by omega⟩
                  have hch := HCH.out
                  rw [tailF, hnx] at hch
                  have HCH2 := Lib.hid hch
                  have hbs := HBI.out.size
                  have hbw : Below wr.heap.size wr (wr.alloc (Obj.cells #[Value.int IntKind.i64 (u : Int)] 3)) := (Below.refl _ _).alloc (Nat.le_refl _) _
                  have HBW := Lib.hid hbw
                  obtain ⟨i0, hi, hz0, hz1, hz2⟩ := info_parts info3
                  rw [Option.isSome_some]
                  clear hch hbw
                  gi_wp2_with (first
                    | (gi_at_builtin; refine wpListIn_append_own _ rfl _ _ 24 rfl W2.heap.size 3 i0 (.int .i64 0) 1 8 Tryd.underlying24 hi hz0 hz1 hz2 rfl (by decide) u19 acc.length (intsV acc) rfl (HRO.out.alloc _) ⟨wr.heap.size, 0, none⟩ 1 1 [.int .i64 (u : Int)] rfl rfl (cell_one_new _ _ _) (by simp [Value.oneCell']) (by unfold maxLen; omega) (by omega) (by simp; omega) ?_; intro v' w4 hown' hgrow _; obtain ⟨ha1, ha2, ha3, ha4⟩ := grown_same HRO.out HBW.out hgrow; have own7 := own_same3 HM.out ((ha1 M (by omega) (by omega)).trans ((HBI.out.block M (by omega)).trans (HB5.out.block M (by omega)))); have HO7 := Lib.hid hown'; have HA4 := Lib.hid ha4; clear hown' hgrow ha1 ha2 ha3 ha4)
                    | (gi_at_lookup; refine wpListIn_lookup_own_ok_int _ rfl _ _ 107 rfl 3 3 .i64 (Maps.int_keyed Tryd.underlying3) Tryd.underlying107 Tryd.underlying3 (zero3 _) M C.length (mapD C) rfl own7 _ _ rfl (Maps.keyOf_int_mk Tryd.underlying3 (wf_i64 u hu12)) ?_; intro c9 hat hwc; rw [mapD_has]))
                  gi_roundg k'
                  case measure => omega
                  case rel =>
                    refine ⟨u, acc ++ [(u : Int)], c9, rfl, rfl, fun y hy => ?_, hu12, by omega, by rw [List.length_append]; simp; omega, ?_, HBI.out.trans (HA4.out _ (Nat.le_refl _) hbs), ?_⟩
                    · rw [mapD_at hy] at hat
                      injection hat with hat
                      injection hat with _ hat
                      exact hat.symm
                    · rw [List.length_append, ← intsV_snoc]
                      exact HO7.out
                    · rw [List.append_assoc]
                      exact HCH2.out
            · have hiC : i = s.length := by omega
              subst hiC
              gi_wp2_with fail
              refine bodyPost_ret (v := .tuple #[u16, .int .i64 0]) (results_tmp2 (t := 6) (u := 7) rfl _ _ _) rfl ?_
              rw [chainsX_ok HGG.out HE.out, HC.out]
              have hl := HLL.out
              rw [List.take_length] at hl
              exact ⟨u16, rfl, Kd.S_lower hl (by omega), HB3.out.trans ((HB.out.mono (by omega)).trans (HB5.out.mono (by omega)))⟩
    · have hne : ((E : Int) == ((full g.n : Nat) : Int)) = false := by rw [beq_eq_false_iff_ne]; omega
      have hne2 : ((E : Int) != ((full g.n : Nat) : Int)) = true := by rw [bne_iff_ne]; omega
      gi_wp2_with fail
      refine bodyPost_ret (v := .tuple #[.slice none 0 0, .int .i64 6]) (results_tmp2 (t := 6) (u := 7) rfl _ _ _) rfl ?_
      rw [chainsX_bad HGG.out (by rw [HE.out]; exact hEq)]
      exact ⟨_, rfl, Kd.S_nil _ _ _ _ _, HB3.out⟩
end Go.Proofs.YtpbeaaihdmfnlaaDoor.H

/- ### ExtC -/
/- Chains, as the laws meet it. -/
namespace Go.Proofs.YtpbeaaihdmfnlaaDoor.G
open Go Go.RowKit Go.Proofs.YtpbeaaihdmfnlaaDoorW.PrintWords Go.Proofs.YtpbeaaihdmfnlaaDoor.H
def wetting_Chains.f (a0 : Int) (l1 : List (S48)) (l2 : List Int) : Option ((List (List Int)) × (Int)) := if inI a0 ∧ fitL l1 ∧ fitL l2 then some (chainsX a0 l1 l2) else none
theorem wetting_Chains.calls (a0 : Int) (A1 : Option Addr) (c1 : Nat) (l1 : List (S48)) (A2 : Option Addr) (c2 : Nat) (l2 : List Int) (r1 : List (List Int)) (r2 : Int) (w : World) (hr1 : Kd.C k48 w A1 l1.length l1) (hc1 : l1.length ≤ c1) (hr2 : Kd.C (Kd.int .i64) w A2 l2.length l2) (hc2 : l2.length ≤ c2) (h : wetting_Chains.f a0 l1 l2 = some (r1, r2)) (hT : Tab w) :
    Calls Tryd.prog 53 #[.int .i64 a0, .slice A1 l1.length c1, .slice A2 l2.length c2] w fun e w' => ∃ v0_ : Value, e = .returned (.tuple #[v0_, .int .i64 r2]) ∧ Kd.S (Kd.slice 3 (Kd.int .i64)) 24 w' w.heap.size (fun _ => True) v0_ r1 ∧ Below w.heap.size w w' := by
  unfold wetting_Chains.f at h
  split at h
  · rename_i hc
    have h2 := chains_any a0 A1 c1 l1 A2 c2 l2 w hr1 hc1 hc.2.1 hc.1 hr2 hc2 hc.2.2 hT
    injection h with h
    rw [h] at h2
    exact h2
  · cases h
end Go.Proofs.YtpbeaaihdmfnlaaDoor.G

/- ### Gx23 -/
-- Written by a program for this seat: plain functions and their walks.
namespace Go.Proofs.YtpbeaaihdmfnlaaDoor.G
open Go.RowKit Go.Proofs.YtpbeaaihdmfnlaaDoor.H Go.Proofs.YtpbeaaihdmfnlaaDoorW.PrintWords Go.Proofs.YtpbeaaihdmfnlaaDoorW.PrintLast Go.Proofs.YtpbeaaihdmfnlaaDoorW.PrintMore
attribute [local go_sem] max2_int min2_int max_two min_two max_three min_three max_four min_four   -- for this text's walks alone
set_option linter.unusedVariables false
set_option linter.unusedSimpArgs false

/-! ### numnahlaw06_WettingChained: function 15 -/
mutual
def numnahlaw06_WettingChained.j0 : Nat → Int → List (S48) → List Int → List (List Int) → Int → Bool → Option (Bool)
 | 0, _, _, _, _, _, _ => none
 | k + 1, x0, x7, x8, x9, x10, x56 => if x56 = true then (some false) else (if x10 = 0 then ((numnahref06_Near.f x0 x7).bind fun t776 => (numnahlaw06_WettingChained.l0 k x0 x8 x9 t776 x0 0)) else (if x10 = 6 then ((numnahlaw06_awake.f).bind fun t775 => (some t775)) else (some false)))
def numnahlaw06_WettingChained.l0 : Nat → Int → List Int → List (List Int) → List Int → Int → Int → Option (Bool)
 | 0, _, _, _, _, _, _ => none
 | k + 1, x0, x8, x9, x14, x15, x16 => if x16 < x0 then (if 0 ≤ x16 then (if x16 < (x14.length : Int) then ((numnahref06_Count.f k (rd x14 x16)).bind fun t780 => (numnahlaw06_WettingChained.l0 k x0 x8 x9 x14 (mn x15 t780) (wrap64 (x16 + 1)))) else (none)) else (none)) else (numnahlaw06_WettingChained.l1 k x0 x8 x9 x14 x15 0 0 0)
def numnahlaw06_WettingChained.l1 : Nat → Int → List Int → List (List Int) → List Int → Int → Int → Int → Int → Option (Bool)
 | 0, _, _, _, _, _, _, _, _ => none
 | k + 1, x0, x8, x9, x14, x15, x17, x18, x19 => if x19 < (x9.length : Int) then (numnahlaw06_WettingChained.l2 k x0 x8 x9 x14 x15 x17 x18 x19 0) else (if x18 = x0 then (if (x9.length : Int) = (x8.length : Int) then (if (x8.length : Int) ≥ x15 then ((numnahlaw06_awake.f).bind fun t781 => (some t781)) else (some false)) else (some false)) else (some false))
def numnahlaw06_WettingChained.l2 : Nat → Int → List Int → List (List Int) → List Int → Int → Int → Int → Int → Int → Option (Bool)
 | 0, _, _, _, _, _, _, _, _, _ => none
 | k + 1, x0, x8, x9, x14, x15, x17, x18, x19, x20 => if 0 ≤ x19 then (if x19 < (x9.length : Int) then (if x20 < ((rd_L3 x9 x19).length : Int) then (if 0 ≤ x20 then (if (rd (rd_L3 x9 x19) x20) < 0 then (some false) else (if (rd (rd_L3 x9 x19) x20) ≥ x0 then (some false) else (if 0 ≤ (rd (rd_L3 x9 x19) x20) then (if (Int.tmod (shr .i64 x17 (rd (rd_L3 x9 x19) x20)) 2) = 1 then (some false) else (if x20 > 0 then (if (rd (rd_L3 x9 x19) x20) < (x14.length : Int) then (if 0 ≤ (wrap64 (x20 - 1)) then (if (wrap64 (x20 - 1)) < ((rd_L3 x9 x19).length : Int) then (if 0 ≤ (rd (rd_L3 x9 x19) (wrap64 (x20 - 1))) then (if (Int.tmod (shr .i64 (rd x14 (rd (rd_L3 x9 x19) x20)) (rd (rd_L3 x9 x19) (wrap64 (x20 - 1)))) 2) = 0 then (some false) else (if x20 = 0 then (if x19 ≥ (x8.length : Int) then (some false) else (if x19 < (x8.length : Int) then (if (rd x8 x19) = (rd (rd_L3 x9 x19) x20) then (numnahlaw06_WettingChained.l2 k x0 x8 x9 x14 x15 (Go.bits .or .i64 x17 (shl .i64 1 (rd (rd_L3 x9 x19) x20))) (wrap64 (x18 + 1)) x19 (wrap64 (x20 + 1))) else (some false)) else (none))) else (numnahlaw06_WettingChained.l2 k x0 x8 x9 x14 x15 (Go.bits .or .i64 x17 (shl .i64 1 (rd (rd_L3 x9 x19) x20))) (wrap64 (x18 + 1)) x19 (wrap64 (x20 + 1))))) else (none)) else (none)) else (none)) else (none)) else (if x20 = 0 then (if x19 ≥ (x8.length : Int) then (some false) else (if x19 < (x8.length : Int) then (if (rd x8 x19) = (rd (rd_L3 x9 x19) x20) then (numnahlaw06_WettingChained.l2 k x0 x8 x9 x14 x15 (Go.bits .or .i64 x17 (shl .i64 1 (rd (rd_L3 x9 x19) x20))) (wrap64 (x18 + 1)) x19 (wrap64 (x20 + 1))) else (some false)) else (none))) else (numnahlaw06_WettingChained.l2 k x0 x8 x9 x14 x15 (Go.bits .or .i64 x17 (shl .i64 1 (rd (rd_L3 x9 x19) x20))) (wrap64 (x18 + 1)) x19 (wrap64 (x20 + 1)))))) else (none)))) else (none)) else (numnahlaw06_WettingChained.l1 k x0 x8 x9 x14 x15 x17 x18 (wrap64 (x19 + 1)))) else (none)) else (none)
end
def numnahlaw06_WettingChained.f (k : Nat) (a0 : Int) (l1 : List (S48)) (a2 : Int) : Option (Bool) := (numnahlaw06_tame.f k a0 l1).bind fun bt759 => ((numnahlaw06_some.f k bt759.1 a2).bind fun t763 => ((wetting_Chains.f bt759.1 bt759.2 t763).bind fun bt766 => ((wetting_Close.f bt759.1 bt759.2 t763).bind fun bt770 => (if bt770.2.2 = 0 then (numnahlaw06_WettingChained.j0 k bt759.1 bt759.2 t763 bt766.1 bt766.2 ((bt766.2 == 0) != ((bt770.1.length : Int) == bt759.1))) else (numnahlaw06_WettingChained.j0 k bt759.1 bt759.2 t763 bt766.1 bt766.2 true)))))
theorem numnahlaw06_WettingChained.mono_l : ∀ k, (∀ y0 y1 y2 y3 y4 y5, LeO (numnahlaw06_WettingChained.j0 k y0 y1 y2 y3 y4 y5) (numnahlaw06_WettingChained.j0 (k + 1) y0 y1 y2 y3 y4 y5)) ∧ (∀ y0 y1 y2 y3 y4 y5, LeO (numnahlaw06_WettingChained.l0 k y0 y1 y2 y3 y4 y5) (numnahlaw06_WettingChained.l0 (k + 1) y0 y1 y2 y3 y4 y5)) ∧ (∀ y0 y1 y2 y3 y4 y5 y6 y7, LeO (numnahlaw06_WettingChained.l1 k y0 y1 y2 y3 y4 y5 y6 y7) (numnahlaw06_WettingChained.l1 (k + 1) y0 y1 y2 y3 y4 y5 y6 y7)) ∧ (∀ y0 y1 y2 y3 y4 y5 y6 y7 y8, LeO (numnahlaw06_WettingChained.l2 k y0 y1 y2 y3 y4 y5 y6 y7 y8) (numnahlaw06_WettingChained.l2 (k + 1) y0 y1 y2 y3 y4 y5 y6 y7 y8))
 | 0 => ⟨fun _ _ _ _ _ _ r h => by simp [numnahlaw06_WettingChained.j0] at h, fun _ _ _ _ _ _ r h => by simp [numnahlaw06_WettingChained.l0] at h, fun _ _ _ _ _ _ _ _ r h => by simp [numnahlaw06_WettingChained.l1] at h, fun _ _ _ _ _ _ _ _ _ r h => by simp [numnahlaw06_WettingChained.l2] at h⟩
 | k + 1 => by
  obtain ⟨ih0, ih1, ih2, ih3⟩ := numnahlaw06_WettingChained.mono_l k
  refine ⟨?_, ?_, ?_, ?_⟩
  ·intro y0 y1 y2 y3 y4 y5
   unfold numnahlaw06_WettingChained.j0
   repeat' first
   | (with_reducible exact ih0 _ _ _ _ _ _)
   | (with_reducible exact ih1 _ _ _ _ _ _)
   | (with_reducible exact ih2 _ _ _ _ _ _ _ _)
   | (with_reducible exact ih3 _ _ _ _ _ _ _ _ _)
   | (with_reducible exact numnahlaw06_some.mono _ _ _)
   | (with_reducible exact numnahlaw06_tame.mono _ _ _)
   | (with_reducible exact numnahref06_Count.mono _ _)
   | (with_reducible exact LeO.refl _)
   | (with_reducible exact LeO.none _)
   | (with_reducible refine LeO.ite ?_ ?_)
   | (with_reducible refine LeO.bind ?_ (fun _ => ?_))
   | exact ih0 _ _ _ _ _ _
   | exact ih1 _ _ _ _ _ _
   | exact ih2 _ _ _ _ _ _ _ _
   | exact ih3 _ _ _ _ _ _ _ _ _
   | exact numnahlaw06_some.mono _ _ _
   | exact numnahlaw06_tame.mono _ _ _
   | exact numnahref06_Count.mono _ _
   | exact LeO.none _
   | refine LeO.ite ?_ ?_
   | refine LeO.bind ?_ (fun _ => ?_)
  ·intro y0 y1 y2 y3 y4 y5
   unfold numnahlaw06_WettingChained.l0
   repeat' first
   | (with_reducible exact ih0 _ _ _ _ _ _)
   | (with_reducible exact ih1 _ _ _ _ _ _)
   | (with_reducible exact ih2 _ _ _ _ _ _ _ _)
   | (with_reducible exact ih3 _ _ _ _ _ _ _ _ _)
   | (with_reducible exact numnahlaw06_some.mono _ _ _)
   | (with_reducible exact numnahlaw06_tame.mono _ _ _)
   | (with_reducible exact numnahref06_Count.mono _ _)
   | (with_reducible exact LeO.refl _)
   | (with_reducible exact LeO.none _)
   | (with_reducible refine LeO.ite ?_ ?_)
   | (with_reducible refine LeO.bind ?_ (fun _ => ?_))
   | exact ih0 _ _ _ _ _ _
   | exact ih1 _ _ _ _ _ _
   | exact ih2 _ _ _ _ _ _ _ _
   | exact ih3 _ _ _ _ _ _ _ _ _
   | exact numnahlaw06_some.mono _ _ _
   | exact numnahlaw06_tame.mono _ _ _
   | exact numnahref06_Count.mono _ _
   | exact LeO.none _
   | refine LeO.ite ?_ ?_
   | refine LeO.bind ?_ (fun _ => ?_)
  ·intro y0 y1 y2 y3 y4 y5 y6 y7
   unfold numnahlaw06_WettingChained.l1
   repeat' first
   | (with_reducible exact ih0 _ _ _ _ _ _)
   | (with_reducible exact ih1 _ _ _ _ _ _)
   | (with_reducible exact ih2 _ _ _ _ _ _ _ _)
   | (with_reducible exact ih3 _ _ _ _ _ _ _ _ _)
   | (with_reducible exact numnahlaw06_some.mono _ _ _)
   | (with_reducible exact numnahlaw06_tame.mono _ _ _)
   | (with_reducible exact numnahref06_Count.mono _ _)
   | (with_reducible exact LeO.refl _)
   | (with_reducible exact LeO.none _)
   | (with_reducible refine LeO.ite ?_ ?_)
   | (with_reducible refine LeO.bind ?_ (fun _ => ?_))
   | exact ih0 _ _ _ _ _ _
   | exact ih1 _ _ _ _ _ _
   | exact ih2 _ _ _ _ _ _ _ _
   | exact ih3 _ _ _ _ _ _ _ _ _
   | exact numnahlaw06_some.mono _ _ _
   | exact numnahlaw06_tame.mono _ _ _
   | exact numnahref06_Count.mono _ _
   | exact LeO.none _
   | refine LeO.ite ?_ ?_
   | refine LeO.bind ?_ (fun _ => ?_)
  ·intro y0 y1 y2 y3 y4 y5 y6 y7 y8
   unfold numnahlaw06_WettingChained.l2
   repeat' first
   | (with_reducible exact ih0 _ _ _ _ _ _)
   | (with_reducible exact ih1 _ _ _ _ _ _)
   | (with_reducible exact ih2 _ _ _ _ _ _ _ _)
   | (with_reducible exact ih3 _ _ _ _ _ _ _ _ _)
   | (with_reducible exact numnahlaw06_some.mono _ _ _)
   | (with_reducible exact numnahlaw06_tame.mono _ _ _)
   | (with_reducible exact numnahref06_Count.mono _ _)
   | (with_reducible exact LeO.refl _)
   | (with_reducible exact LeO.none _)
   | (with_reducible refine LeO.ite ?_ ?_)
   | (with_reducible refine LeO.bind ?_ (fun _ => ?_))
   | exact ih0 _ _ _ _ _ _
   | exact ih1 _ _ _ _ _ _
   | exact ih2 _ _ _ _ _ _ _ _
   | exact ih3 _ _ _ _ _ _ _ _ _
   | exact numnahlaw06_some.mono _ _ _
   | exact numnahlaw06_tame.mono _ _ _
   | exact numnahref06_Count.mono _ _
   | exact LeO.none _
   | refine LeO.ite ?_ ?_
   | refine LeO.bind ?_ (fun _ => ?_)
theorem numnahlaw06_WettingChained.mono : ∀ a0 a1 a2 k, LeO (numnahlaw06_WettingChained.f k a0 a1 a2) (numnahlaw06_WettingChained.f (k + 1) a0 a1 a2) := by
 intro a0 a1 a2 k
 obtain ⟨ih0, ih1, ih2, ih3⟩ := numnahlaw06_WettingChained.mono_l k
 unfold numnahlaw06_WettingChained.f
 repeat' first
   | (with_reducible exact ih0 _ _ _ _ _ _)
   | (with_reducible exact ih1 _ _ _ _ _ _)
   | (with_reducible exact ih2 _ _ _ _ _ _ _ _)
   | (with_reducible exact ih3 _ _ _ _ _ _ _ _ _)
   | (with_reducible exact numnahlaw06_some.mono _ _ _)
   | (with_reducible exact numnahlaw06_tame.mono _ _ _)
   | (with_reducible exact numnahref06_Count.mono _ _)
   | (with_reducible exact LeO.refl _)
   | (with_reducible exact LeO.none _)
   | (with_reducible refine LeO.ite ?_ ?_)
   | (with_reducible refine LeO.bind ?_ (fun _ => ?_))
   | exact ih0 _ _ _ _ _ _
   | exact ih1 _ _ _ _ _ _
   | exact ih2 _ _ _ _ _ _ _ _
   | exact ih3 _ _ _ _ _ _ _ _ _
   | exact numnahlaw06_some.mono _ _ _
   | exact numnahlaw06_tame.mono _ _ _
   | exact numnahref06_Count.mono _ _
   | exact LeO.none _
   | refine LeO.ite ?_ ?_
   | refine LeO.bind ?_ (fun _ => ?_)
set_option maxHeartbeats 8000000 in
set_option maxRecDepth 100000 in
theorem numnahlaw06_WettingChained.calls (k : Nat) (a0 : Int) (A1 : Option Addr) (c1 : Nat) (l1 : List (S48)) (a2 : Int) (r : Bool) (w : World) (hr1 : Kd.C k48 w A1 l1.length l1) (hc1 : l1.length ≤ c1) (h : numnahlaw06_WettingChained.f k a0 l1 a2 = some r) (hT : Tab w) :
  Calls Tryd.prog 15 #[.int .i64 a0, .slice A1 l1.length c1, .int .i64 a2] w fun e w' => e = .returned (.bool r) ∧ Below w.heap.size w w' := by
 have HT := Aside0.mk hT
 clear hT
 have HR1 := Aside0.mk hr1
 have HC1 := Aside0.mk hc1
 clear hr1 hc1
 have HB := Aside0.mk (Below.refl w.heap.size w)
 have H : ((numnahlaw06_tame.f k a0 l1).bind fun bt759 => ((numnahlaw06_some.f k bt759.1 a2).bind fun t763 => ((wetting_Chains.f bt759.1 bt759.2 t763).bind fun bt766 => ((wetting_Close.f bt759.1 bt759.2 t763).bind fun bt770 => (if bt770.2.2 = 0 then (numnahlaw06_WettingChained.j0 k bt759.1 bt759.2 t763 bt766.1 bt766.2 ((bt766.2 == 0) != ((bt770.1.length : Int) == bt759.1))) else (numnahlaw06_WettingChained.j0 k bt759.1 bt759.2 t763 bt766.1 bt766.2 true)))))) = some r := h
 clear h
 replace H := Option.bind_eq_some_iff.mp H
 obtain ⟨⟨t759, t760⟩, A40, H⟩ := H
 replace H : ((numnahlaw06_some.f k t759 a2).bind fun t763 => ((wetting_Chains.f t759 t760 t763).bind fun bt766 => ((wetting_Close.f t759 t760 t763).bind fun bt770 => (if bt770.2.2 = 0 then (numnahlaw06_WettingChained.j0 k t759 t760 t763 bt766.1 bt766.2 ((bt766.2 == 0) != ((bt770.1.length : Int) == t759))) else (numnahlaw06_WettingChained.j0 k t759 t760 t763 bt766.1 bt766.2 true))))) = some r := H
 have A4 := Aside0.mk A40
 clear A40
 replace H := Option.bind_eq_some_iff.mp H
 obtain ⟨t763, A50, H⟩ := H
 replace H : ((wetting_Chains.f t759 t760 t763).bind fun bt766 => ((wetting_Close.f t759 t760 t763).bind fun bt770 => (if bt770.2.2 = 0 then (numnahlaw06_WettingChained.j0 k t759 t760 t763 bt766.1 bt766.2 ((bt766.2 == 0) != ((bt770.1.length : Int) == t759))) else (numnahlaw06_WettingChained.j0 k t759 t760 t763 bt766.1 bt766.2 true)))) = some r := H
 have A5 := Aside0.mk A50
 clear A50
 replace H := Option.bind_eq_some_iff.mp H
 obtain ⟨⟨t766, t767⟩, A60, H⟩ := H
 replace H : ((wetting_Close.f t759 t760 t763).bind fun bt770 => (if bt770.2.2 = 0 then (numnahlaw06_WettingChained.j0 k t759 t760 t763 t766 t767 ((t767 == 0) != ((bt770.1.length : Int) == t759))) else (numnahlaw06_WettingChained.j0 k t759 t760 t763 t766 t767 true))) = some r := H
 have A6 := Aside0.mk A60
 clear A60
 replace H := Option.bind_eq_some_iff.mp H
 obtain ⟨⟨t770, t771, t772⟩, A70, H⟩ := H
 replace H : (if t772 = 0 then (numnahlaw06_WettingChained.j0 k t759 t760 t763 t766 t767 ((t767 == 0) != ((t770.length : Int) == t759))) else (numnahlaw06_WettingChained.j0 k t759 t760 t763 t766 t767 true)) = some r := H
 have A7 := Aside0.mk A70
 clear A70
 have HC8 := Aside0.mk H
 clear H
 go_enter Tryd.func15, Tryd.ntmps15
 go_upto_region 5 with (first | (go_at_call 27; (with_reducible refine (numnahlaw06_tame.calls k a0 _ _ l1 t759 t760 _ ?side1 ?side2 A4.out).mono ?_); (case side1 => repeat (first | exact HR1.out | (with_reducible refine Kd.C_alloc ?_ _) | (with_reducible refine Kd.C_drewN ?_ _) | (with_reducible refine Kd.C_drew ?_))); (case side2 => exact HC1.out); rintro e w9 ⟨v761, rfl, ho0, hb⟩; have n0_ := Aside0.mk (Kd.R_lower ho0 (below_size (by repeat (first | (with_reducible first | exact HB.out | apply below_alloc | apply pw_below_drewN | apply below_drew1) | exact HB.out)))); have n1_ := Aside0.mk (below_step (by repeat (first | (with_reducible first | exact HB.out | apply below_alloc | apply pw_below_drewN | apply below_drew1) | exact HB.out)) hb); clear HB; have HO762 := n0_; have HB := n1_; clear n0_ n1_; (try clear hb); (try clear hb2); (try clear hk); (try clear hi); (try clear ho0)) | (go_at_call 28; (with_reducible refine (numnahlaw06_some.calls k t759 a2 t763 _ A5.out).mono ?_); rintro e w10 ⟨v764, rfl, ho0, hb⟩; have n0_ := Aside0.mk (Kd.R_below (by (with_reducible repeat (first | apply Kd.R_alloc | apply Kd.R_drewN | apply Kd.R_drew)); exact HO762.out) hb); have n1_ := Aside0.mk (Kd.R_lower ho0 (below_size (by repeat (first | (with_reducible first | exact HB.out | apply below_alloc | apply pw_below_drewN | apply below_drew1) | exact HB.out)))); have n2_ := Aside0.mk (below_step (by repeat (first | (with_reducible first | exact HB.out | apply below_alloc | apply pw_below_drewN | apply below_drew1) | exact HB.out)) hb); clear HO762; clear HB; have HO762 := n0_; have HO765 := n1_; have HB := n2_; clear n0_ n1_ n2_; (try clear hb); (try clear hb2); (try clear hk); (try clear hi); (try clear ho0); obtain ⟨Ao11, co11, eo11⟩ := Kd.R_slice HO762.out; subst eo11; obtain ⟨Ao12, co12, eo12⟩ := Kd.R_slice HO765.out; subst eo12) | (go_at_call 53; (with_reducible refine (wetting_Chains.calls t759 _ _ t760 _ _ t763 t766 t767 _ ?side1 ?side2 ?side3 ?side4 A6.out ?sideT).mono ?_); (case sideT => exact tab_of (by repeat (first | (with_reducible first | exact HB.out | apply below_alloc | apply pw_below_drewN | apply below_drew1) | exact HB.out)) HT.out); (case side1 => repeat (first | exact (Kd.R_reads' HO762.out).2.2 | (with_reducible refine Kd.C_alloc ?_ _) | (with_reducible refine Kd.C_drewN ?_ _) | (with_reducible refine Kd.C_drew ?_))); (case side2 => exact (Kd.R_reads' HO762.out).2.1); (case side3 => repeat (first | exact (Kd.R_reads' HO765.out).2.2 | (with_reducible refine Kd.C_alloc ?_ _) | (with_reducible refine Kd.C_drewN ?_ _) | (with_reducible refine Kd.C_drew ?_))); (case side4 => exact (Kd.R_reads' HO765.out).2.1); rintro e w13 ⟨v768, rfl, ho0, hb⟩; have n0_ := Aside0.mk (Kd.R_below (by (with_reducible repeat (first | apply Kd.R_alloc | apply Kd.R_drewN | apply Kd.R_drew)); exact HO762.out) hb); have n1_ := Aside0.mk (Kd.R_below (by (with_reducible repeat (first | apply Kd.R_alloc | apply Kd.R_drewN | apply Kd.R_drew)); exact HO765.out) hb); have n2_ := Aside0.mk (Kd.S_lower (Kd.S_new' ho0 (Kd.R_lt (by (with_reducible repeat (first | apply Kd.R_alloc | apply Kd.R_drewN | apply Kd.R_drew)); exact HO765.out))) (below_size (by repeat (first | (with_reducible first | exact HB.out | apply below_alloc | apply pw_below_drewN | apply below_drew1) | exact HB.out)))); have n3_ := Aside0.mk (below_step (by repeat (first | (with_reducible first | exact HB.out | apply below_alloc | apply pw_below_drewN | apply below_drew1) | exact HB.out)) hb); clear HO762; clear HO765; clear HB; have HO762 := n0_; have HO765 := n1_; have HO769 := n2_; have HB := n3_; clear n0_ n1_ n2_ n3_; (try clear hb); (try clear hb2); (try clear hk); (try clear hi); (try clear ho0)) | (go_at_call 29; (with_reducible refine (wetting_Close.calls t759 _ _ t760 _ _ t763 t770 t771 t772 _ ?side1 ?side2 ?side3 ?side4 A7.out ?sideT).mono ?_); (case sideT => exact tab_of (by repeat (first | (with_reducible first | exact HB.out | apply below_alloc | apply pw_below_drewN | apply below_drew1) | exact HB.out)) HT.out); (case side1 => repeat (first | exact (Kd.R_reads' HO762.out).2.2 | (with_reducible refine Kd.C_alloc ?_ _) | (with_reducible refine Kd.C_drewN ?_ _) | (with_reducible refine Kd.C_drew ?_))); (case side2 => exact (Kd.R_reads' HO762.out).2.1); (case side3 => repeat (first | exact (Kd.R_reads' HO765.out).2.2 | (with_reducible refine Kd.C_alloc ?_ _) | (with_reducible refine Kd.C_drewN ?_ _) | (with_reducible refine Kd.C_drew ?_))); (case side4 => exact (Kd.R_reads' HO765.out).2.1); rintro e w14 ⟨v773, rfl, ho0, hb⟩; have n0_ := Aside0.mk (Kd.R_below (by (with_reducible repeat (first | apply Kd.R_alloc | apply Kd.R_drewN | apply Kd.R_drew)); exact HO762.out) hb); have n1_ := Aside0.mk (Kd.R_elder' (by (with_reducible repeat (first | apply Kd.R_alloc | apply Kd.R_drewN | apply Kd.R_drew)); exact HO765.out) (Kd.R_base ho0) hb); have n2_ := Aside0.mk (Kd.S_elder' (by (with_reducible repeat (first | apply Kd.S_alloc | apply Kd.S_drewN | apply Kd.S_drew)); exact HO769.out) (Kd.R_base ho0) hb); have n3_ := Aside0.mk (Kd.R_lower (Kd.R_new' ho0 (Kd.R_lt (by (with_reducible repeat (first | apply Kd.R_alloc | apply Kd.R_drewN | apply Kd.R_drew)); exact HO765.out))) (below_size (by repeat (first | (with_reducible first | exact HB.out | apply below_alloc | apply pw_below_drewN | apply below_drew1) | exact HB.out)))); have n4_ := Aside0.mk (below_step (by repeat (first | (with_reducible first | exact HB.out | apply below_alloc | apply pw_below_drewN | apply below_drew1) | exact HB.out)) hb); clear HO762; clear HO765; clear HO769; clear HB; have HO762 := n0_; have HO765 := n1_; have HO769 := n2_; have HO774 := n3_; have HB := n4_; clear n0_ n1_ n2_ n3_ n4_; (try clear hb); (try clear hb2); (try clear hk); (try clear hi); (try clear ho0)))
 (try simp only [Act.put, List.setIfInBounds_toArray, List.set_cons_zero, List.set_cons_succ])
 go_cut [56] (fun v56 wc => ∃ (kq : Nat) (x56_7 : Bool), v56 = .bool x56_7 ∧ Aside0 (numnahlaw06_WettingChained.j0 kq t759 t760 t763 t766 t767 x56_7 = some r) ∧ Aside0 (kq ≤ k) ∧ Aside0 (Kd.R k48 48 wc w.heap.size (fun _ => True) (.slice Ao11 t760.length co11) t760) ∧ Aside0 (Kd.R (Kd.int .i64) 3 wc w.heap.size (fun _ => True) (.slice Ao12 t763.length co12) t763) ∧ Aside0 (Kd.S (Kd.slice 3 (Kd.int .i64)) 24 wc w.heap.size (fun k_ => some k_ ≠ ((.slice Ao12 t763.length co12) : Value).ownBlock) v768 t766) ∧ Aside0 (Below w.heap.size w wc))
 case first =>
  have H := HC8.out
  clear HC8
  by_cases c15 : t772 = 0
  ·rw [if_pos c15] at H
   have c15b0 : (t772 == 0) = true := beq_iff_eq.mpr c15
   have c15b1 : (t772 != 0) = false := bne_eq_false_iff_eq.mpr c15
   clear c15
   (first | rw [c15b0] | (simp only [i64_w, i32_w]; rw [c15b0]) | skip)
   have H' := Aside0.mk H
   clear H
   obtain ⟨Ao16, co16, eo16⟩ := Kd.R_slice HO774.out
   subst eo16
   go_wp2
   go_meet
   case rel => exact ⟨_, (((t767 == 0) != ((t770.length : Int) == t759))), (by first | rfl | (simp; done) | (simp [*]; done)), H', ⟨by first | omega | exact Nat.le_refl _⟩, ⟨by (with_reducible repeat (first | apply Kd.R_alloc | apply Kd.R_drewN | apply Kd.R_drew)); exact HO762.out⟩, ⟨by (with_reducible repeat (first | apply Kd.R_alloc | apply Kd.R_drewN | apply Kd.R_drew)); exact Kd.R_mono HO765.out (fun _ hk => trivial)⟩, ⟨by (with_reducible repeat (first | apply Kd.S_alloc | apply Kd.S_drewN | apply Kd.S_drew)); exact Kd.S_mono HO769.out (fun _ hk => hk.1.2)⟩, ⟨by repeat (first | (with_reducible first | exact HB.out | apply below_alloc | apply pw_below_drewN | apply below_drew1) | exact HB.out)⟩⟩
  ·rw [if_neg c15] at H
   have c15b0 : (t772 == 0) = false := beq_eq_false_iff_ne.mpr c15
   have c15b1 : (t772 != 0) = true := bne_iff_ne.mpr c15
   (first | rw [c15b0] | (simp only [i64_w, i32_w]; rw [c15b0]) | skip)
   have H' := Aside0.mk H
   clear H
   go_wp2
   go_meet
   case rel => exact ⟨_, (true), (by first | rfl | (simp; done) | (simp [*]; done)), H', ⟨by first | omega | exact Nat.le_refl _⟩, ⟨by (with_reducible repeat (first | apply Kd.R_alloc | apply Kd.R_drewN | apply Kd.R_drew)); exact HO762.out⟩, ⟨by (with_reducible repeat (first | apply Kd.R_alloc | apply Kd.R_drewN | apply Kd.R_drew)); exact Kd.R_mono HO765.out (fun _ hk => trivial)⟩, ⟨by (with_reducible repeat (first | apply Kd.S_alloc | apply Kd.S_drewN | apply Kd.S_drew)); exact Kd.S_mono HO769.out (fun _ hk => hk.1.2)⟩, ⟨by repeat (first | (with_reducible first | exact HB.out | apply below_alloc | apply pw_below_drewN | apply below_drew1) | exact HB.out)⟩⟩
 case rest =>
  clear HC8
  try clear c1
  try clear p2
  try clear c15
  try clear c15b0
  try clear c15b1
  obtain ⟨kq, x56_7, rfl, HA, HJ7, HO_7, HO_8, HO_9, HB⟩ := hcut
  cases kq with
  | zero => exact absurd HA.out (by simp [numnahlaw06_WettingChained.j0])
  | succ kj7 =>
   have H := HA.out
   clear HA
   simp only [numnahlaw06_WettingChained.j0] at H
   by_cases c17 : x56_7 = true
   ·subst c17
    have H1 : (some false) = some r := by rw [if_pos rfl] at H; exact H
    clear H
    have H := H1
    clear H1
    obtain rfl := Option.some.inj H
    go_wp2
    go_ret
    exact ⟨by first | rfl | (simp [errW_none, errW_some] <;> rfl) | (simp [*, errW_none, errW_some] <;> rfl), by repeat (first | (with_reducible first | exact HB.out | apply below_alloc | apply pw_below_drewN | apply below_drew1) | exact HB.out)⟩
   ·replace c17 := Bool.eq_false_iff.mpr c17
    subst c17
    have H1 : (if t767 = 0 then ((numnahref06_Near.f t759 t760).bind fun t776 => (numnahlaw06_WettingChained.l0 kj7 t759 t763 t766 t776 t759 0)) else (if t767 = 6 then ((numnahlaw06_awake.f).bind fun t775 => (some t775)) else (some false))) = some r := by rw [if_neg (show ¬ (false = true) by decide)] at H; exact H
    clear H
    have H := H1
    clear H1
    by_cases c18 : t767 = 0
    ·rw [if_pos c18] at H
     have c18b0 : (t767 == 0) = true := beq_iff_eq.mpr c18
     have c18b1 : (t767 != 0) = false := bne_eq_false_iff_eq.mpr c18
     clear c18
     replace H := Option.bind_eq_some_iff.mp H
     obtain ⟨t776, A190, H⟩ := H
     replace H : (numnahlaw06_WettingChained.l0 kj7 t759 t763 t766 t776 t759 0) = some r := H
     have A19 := Aside0.mk A190
     clear A190
     have H' := Aside0.mk H
     clear H
     go_wp2_with (first | (go_at_call 22; (with_reducible refine (numnahref06_Near.calls t759 _ _ t760 t776 _ ?side1 ?side2 A19.out).mono ?_); (case side1 => repeat (first | exact (Kd.R_reads' HO_7.out).2.2 | (with_reducible refine Kd.C_alloc ?_ _) | (with_reducible refine Kd.C_drewN ?_ _) | (with_reducible refine Kd.C_drew ?_))); (case side2 => exact (Kd.R_reads' HO_7.out).2.1); rintro e w20 ⟨v777, rfl, ho0, hb⟩; have n0_ := Aside0.mk (Kd.R_below (by (with_reducible repeat (first | apply Kd.R_alloc | apply Kd.R_drewN | apply Kd.R_drew)); exact HO_7.out) hb); have n1_ := Aside0.mk (Kd.R_elder' (by (with_reducible repeat (first | apply Kd.R_alloc | apply Kd.R_drewN | apply Kd.R_drew)); exact HO_8.out) (Kd.R_base ho0) hb); have n2_ := Aside0.mk (Kd.S_elder' (by (with_reducible repeat (first | apply Kd.S_alloc | apply Kd.S_drewN | apply Kd.S_drew)); exact HO_9.out) (Kd.R_base ho0) hb); have n3_ := Aside0.mk (Kd.R_lower (Kd.R_new' ho0 (Kd.R_lt (by (with_reducible repeat (first | apply Kd.R_alloc | apply Kd.R_drewN | apply Kd.R_drew)); exact HO_8.out))) (below_size (by repeat (first | (with_reducible first | exact HB.out | apply below_alloc | apply pw_below_drewN | apply below_drew1) | exact HB.out)))); have n4_ := Aside0.mk (below_step (by repeat (first | (with_reducible first | exact HB.out | apply below_alloc | apply pw_below_drewN | apply below_drew1) | exact HB.out)) hb); clear HO_7; clear HO_8; clear HO_9; clear HB; have HO_7 := n0_; have HO_8 := n1_; have HO_9 := n2_; have HO778 := n3_; have HB := n4_; clear n0_ n1_ n2_ n3_ n4_; (try clear hb); (try clear hb2); (try clear hk); (try clear hi); (try clear ho0)))
     go_loopg [15, 16] kj7 (fun kq v15 v16 w' => ∃ (x15_2 : Int) (x16_2 : Int), v15 = .int .i64 x15_2 ∧ v16 = .int .i64 x16_2 ∧ Aside0 (numnahlaw06_WettingChained.l0 kq t759 t763 t766 t776 x15_2 x16_2 = some r) ∧ Aside0 (kq ≤ kj7) ∧ Aside0 (Kd.R (Kd.int .i64) 3 w' w.heap.size (fun k_ => some k_ ≠ (v777 : Value).ownBlock) (.slice Ao12 t763.length co12) t763) ∧ Aside0 (Kd.S (Kd.slice 3 (Kd.int .i64)) 24 w' w.heap.size (fun k_ => some k_ ≠ ((.slice Ao12 t763.length co12) : Value).ownBlock ∧ some k_ ≠ (v777 : Value).ownBlock) v768 t766) ∧ Aside0 (Kd.R (Kd.int .i64) 3 w' w.heap.size (fun k_ => some k_ ≠ ((.slice Ao12 t763.length co12) : Value).ownBlock) v777 t776) ∧ Aside0 (Below w.heap.size w w'))
     case atStart => exact ⟨(t759), (0), (by first | rfl | (simp; done) | (simp [*]; done)), (by first | rfl | (simp; done) | (simp [*]; done)), H', ⟨Nat.le_refl _⟩, ⟨by (with_reducible repeat (first | apply Kd.R_alloc | apply Kd.R_drewN | apply Kd.R_drew)); exact Kd.R_mono HO_8.out (fun _ hk => hk.2)⟩, ⟨by (with_reducible repeat (first | apply Kd.S_alloc | apply Kd.S_drewN | apply Kd.S_drew)); exact HO_9.out⟩, ⟨by (with_reducible repeat (first | apply Kd.R_alloc | apply Kd.R_drewN | apply Kd.R_drew)); exact Kd.R_mono HO778.out (fun _ hk => hk.2)⟩, ⟨by repeat (first | (with_reducible first | exact HB.out | apply below_alloc | apply pw_below_drewN | apply below_drew1) | exact HB.out)⟩⟩
     case round =>
      clear H'
      try clear c1
      try clear p2
      try clear c15
      try clear c15b0
      try clear c15b1
      try clear c17
      try clear c18
      try clear c18b0
      try clear c18b1
      try clear p2
      obtain ⟨x15_2, x16_2, rfl, rfl, HA, HK2, HO_8, HO_9, HO_14, HB⟩ := hrel
      cases gk with
      | zero => exact absurd HA.out (by simp [numnahlaw06_WettingChained.l0])
      | succ k2 =>
       have H := HA.out
       clear HA
       simp only [numnahlaw06_WettingChained.l0] at H
       by_cases c21 : x16_2 < t759
       ·rw [if_pos c21] at H
        have c21b0 : decide (x16_2 < t759) = true := decide_eq_true c21
        clear c21
        by_cases c22 : 0 ≤ x16_2
        ·rw [if_pos c22] at H
         have c22b0 : decide (0 ≤ x16_2) = true := decide_eq_true c22
         clear c22
         by_cases c23 : x16_2 < (t776.length : Int)
         ·rw [if_pos c23] at H
          have c23b0 : decide (x16_2 < (t776.length : Int)) = true := decide_eq_true c23
          clear c23
          replace H := Option.bind_eq_some_iff.mp H
          obtain ⟨t780, A240, H⟩ := H
          replace H : (numnahlaw06_WettingChained.l0 k2 t759 t763 t766 t776 (mn x15_2 t780) (wrap64 (x16_2 + 1))) = some r := H
          have A24 := Aside0.mk A240
          clear A240
          obtain ⟨ji25, hji25⟩ : ∃ j_ : Int, (mn x15_2 t780) = j_ := ⟨_, rfl⟩
          replace H : (numnahlaw06_WettingChained.l0 k2 t759 t763 t766 t776 ji25 (wrap64 (x16_2 + 1))) = some r := by first | (rw [hji25] at H; exact H) | (simp only [hji25] at H ⊢; exact H)
          (try rw [hji25] at A24)
          have hji25_ : (if t780 < x15_2 then t780 else x15_2) = ji25 := hji25
          have H' := Aside0.mk H
          clear H
          obtain ⟨Ao26, co26, eo26⟩ := Kd.R_slice HO_14.out
          subst eo26
          have p779 : 0 ≤ (x16_2 : Int) := of_decide_eq_true (by first | (with_reducible assumption) | assumption)
          have q779 : x16_2 < (t776.length : Int) := of_decide_eq_true (by first | (with_reducible assumption) | assumption)
          obtain ⟨ad779, e779, hx779_0⟩ := Kd.at_int (Kd.R_reads' HO_14.out).2.2 x16_2 p779 q779
          cases e779
          replace p779 := eq_true p779
          replace q779 := eq_true q779
          go_wp2_with (first | (go_at_call 41; (with_reducible refine (numnahref06_Count.calls k2 (rd t776 x16_2) t780 _ A24.out).mono ?_); rintro e w27 ⟨rfl, hb⟩; have n0_ := Aside0.mk (Kd.R_below (by (with_reducible repeat (first | apply Kd.R_alloc | apply Kd.R_drewN | apply Kd.R_drew)); exact HO_8.out) hb); have n1_ := Aside0.mk (Kd.S_below (by (with_reducible repeat (first | apply Kd.S_alloc | apply Kd.S_drewN | apply Kd.S_drew)); exact HO_9.out) hb); have n2_ := Aside0.mk (Kd.R_below (by (with_reducible repeat (first | apply Kd.R_alloc | apply Kd.R_drewN | apply Kd.R_drew)); exact HO_14.out) hb); have n3_ := Aside0.mk (below_step (by repeat (first | (with_reducible first | exact HB.out | apply below_alloc | apply pw_below_drewN | apply below_drew1) | exact HB.out)) hb); clear HO_8; clear HO_9; clear HO_14; clear HB; have HO_8 := n0_; have HO_9 := n1_; have HO_14 := n2_; have HB := n3_; clear n0_ n1_ n2_ n3_; (try clear hb); (try clear hb2); (try clear hk); (try clear hi)))
          go_roundg k2
          case measure => have := HJ7.out; have := HK2.out; omega
          case rel => exact ⟨(ji25), (wrap64 (x16_2 + 1)), (by first | rfl | (simp; done) | (simp only [← hji25] <;> (first | rfl | simp)) | (simp [*]; done)), (by first | rfl | (simp; done) | (simp [*]; done)), H', ⟨by have := HJ7.out; have := HK2.out; omega⟩, ⟨by (with_reducible repeat (first | apply Kd.R_alloc | apply Kd.R_drewN | apply Kd.R_drew)); exact HO_8.out⟩, ⟨by (with_reducible repeat (first | apply Kd.S_alloc | apply Kd.S_drewN | apply Kd.S_drew)); exact HO_9.out⟩, ⟨by (with_reducible repeat (first | apply Kd.R_alloc | apply Kd.R_drewN | apply Kd.R_drew)); exact HO_14.out⟩, ⟨by repeat (first | (with_reducible first | exact HB.out | apply below_alloc | apply pw_below_drewN | apply below_drew1) | exact HB.out)⟩⟩
         ·rw [if_neg c23] at H
          exact absurd H (by simp)
        ·rw [if_neg c22] at H
         exact absurd H (by simp)
       ·rw [if_neg c21] at H
        have c21b0 : decide (x16_2 < t759) = false := decide_eq_false c21
        clear c21
        have H' := Aside0.mk H
        clear H
        go_wp2
        go_loopg [17, 18, 19] k2 (fun kq v17 v18 v19 w' => ∃ (x17_3 : Int) (x18_3 : Int) (x19_3 : Int), v17 = .int .i64 x17_3 ∧ v18 = .int .i64 x18_3 ∧ v19 = .int .i64 x19_3 ∧ Aside0 (numnahlaw06_WettingChained.l1 kq t759 t763 t766 t776 x15_2 x17_3 x18_3 x19_3 = some r) ∧ Aside0 (kq ≤ k2) ∧ Aside0 (Kd.R (Kd.int .i64) 3 w' w.heap.size (fun k_ => some k_ ≠ (v777 : Value).ownBlock) (.slice Ao12 t763.length co12) t763) ∧ Aside0 (Kd.S (Kd.slice 3 (Kd.int .i64)) 24 w' w.heap.size (fun k_ => some k_ ≠ ((.slice Ao12 t763.length co12) : Value).ownBlock ∧ some k_ ≠ (v777 : Value).ownBlock) v768 t766) ∧ Aside0 (Kd.R (Kd.int .i64) 3 w' w.heap.size (fun k_ => some k_ ≠ ((.slice Ao12 t763.length co12) : Value).ownBlock) v777 t776) ∧ Aside0 (Below w.heap.size w w'))
        case atStart => exact ⟨(0), (0), (0), (by first | rfl | (simp; done) | (simp [*]; done)), (by first | rfl | (simp; done) | (simp [*]; done)), (by first | rfl | (simp; done) | (simp [*]; done)), H', ⟨Nat.le_refl _⟩, ⟨by (with_reducible repeat (first | apply Kd.R_alloc | apply Kd.R_drewN | apply Kd.R_drew)); exact HO_8.out⟩, ⟨by (with_reducible repeat (first | apply Kd.S_alloc | apply Kd.S_drewN | apply Kd.S_drew)); exact HO_9.out⟩, ⟨by (with_reducible repeat (first | apply Kd.R_alloc | apply Kd.R_drewN | apply Kd.R_drew)); exact HO_14.out⟩, ⟨by repeat (first | (with_reducible first | exact HB.out | apply below_alloc | apply pw_below_drewN | apply below_drew1) | exact HB.out)⟩⟩
        case round =>
         clear H'
         try clear c1
         try clear c2
         try clear p2
         try clear p6
         try clear p7
         try clear q7
         try clear hx7
         try clear c15
         try clear c15b0
         try clear c15b1
         try clear c17
         try clear c18
         try clear c18b0
         try clear c18b1
         try clear c21
         try clear c21b0
         try clear c22
         try clear c22b0
         try clear c23
         try clear c23b0
         try clear hx779_0
         try clear p2
         try clear p779
         try clear q779
         obtain ⟨x17_3, x18_3, x19_3, rfl, rfl, rfl, HA, HK3, HO_8, HO_9, HO_14, HB⟩ := hrel
         cases gk with
         | zero => exact absurd HA.out (by simp [numnahlaw06_WettingChained.l1])
         | succ k3 =>
          have H := HA.out
          clear HA
          simp only [numnahlaw06_WettingChained.l1] at H
          by_cases c28 : x19_3 < (t766.length : Int)
          ·rw [if_pos c28] at H
           have c28b0 : decide (x19_3 < (t766.length : Int)) = true := decide_eq_true c28
           clear c28
           have H' := Aside0.mk H
           clear H
           obtain ⟨Ao29, co29, eo29⟩ := Kd.S_slice HO_9.out
           subst eo29
           go_wp2
           go_loopg [17, 18, 20] k3 (fun kq v17 v18 v20 w' => ∃ (x17_4 : Int) (x18_4 : Int) (x20_4 : Int), v17 = .int .i64 x17_4 ∧ v18 = .int .i64 x18_4 ∧ v20 = .int .i64 x20_4 ∧ Aside0 (numnahlaw06_WettingChained.l2 kq t759 t763 t766 t776 x15_2 x17_4 x18_4 x19_3 x20_4 = some r) ∧ Aside0 (kq ≤ k3) ∧ Aside0 (Kd.R (Kd.int .i64) 3 w' w.heap.size (fun k_ => some k_ ≠ (v777 : Value).ownBlock) (.slice Ao12 t763.length co12) t763) ∧ Aside0 (Kd.S (Kd.slice 3 (Kd.int .i64)) 24 w' w.heap.size (fun k_ => some k_ ≠ ((.slice Ao12 t763.length co12) : Value).ownBlock ∧ some k_ ≠ (v777 : Value).ownBlock) (.slice Ao29 t766.length co29) t766) ∧ Aside0 (Kd.R (Kd.int .i64) 3 w' w.heap.size (fun k_ => some k_ ≠ ((.slice Ao12 t763.length co12) : Value).ownBlock) v777 t776) ∧ Aside0 (Below w.heap.size w w'))
           case atStart => exact ⟨(x17_3), (x18_3), (0), (by first | rfl | (simp; done) | (simp [*]; done)), (by first | rfl | (simp; done) | (simp [*]; done)), (by first | rfl | (simp; done) | (simp [*]; done)), H', ⟨Nat.le_refl _⟩, ⟨by (with_reducible repeat (first | apply Kd.R_alloc | apply Kd.R_drewN | apply Kd.R_drew)); exact HO_8.out⟩, ⟨by (with_reducible repeat (first | apply Kd.S_alloc | apply Kd.S_drewN | apply Kd.S_drew)); exact HO_9.out⟩, ⟨by (with_reducible repeat (first | apply Kd.R_alloc | apply Kd.R_drewN | apply Kd.R_drew)); exact HO_14.out⟩, ⟨by repeat (first | (with_reducible first | exact HB.out | apply below_alloc | apply pw_below_drewN | apply below_drew1) | exact HB.out)⟩⟩
           case round =>
            clear H'
            try clear c1
            try clear c2
            try clear p2
            try clear p6
            try clear p7
            try clear q7
            try clear hx7
            try clear c15
            try clear c15b0
            try clear c15b1
            try clear c17
            try clear c18
            try clear c18b0
            try clear c18b1
            try clear c21
            try clear c21b0
            try clear c22
            try clear c22b0
            try clear c23
            try clear c23b0
            try clear c28
            try clear c28b0
            try clear hx779_0
            try clear p2
            try clear p6
            try clear p7
            try clear p779
            try clear q7
            try clear q779
            obtain ⟨x17_4, x18_4, x20_4, rfl, rfl, rfl, HA, HK4, HO_8, HO_9, HO_14, HB⟩ := hrel
            cases gk with
            | zero => exact absurd HA.out (by simp [numnahlaw06_WettingChained.l2])
            | succ k4 =>
             have H := HA.out
             clear HA
             simp only [numnahlaw06_WettingChained.l2] at H
             by_cases c30 : 0 ≤ x19_3
             ·rw [if_pos c30] at H
              have c30b0 : decide (0 ≤ x19_3) = true := decide_eq_true c30
              clear c30
              by_cases c31 : x19_3 < (t766.length : Int)
              ·rw [if_pos c31] at H
               have c31b0 : decide (x19_3 < (t766.length : Int)) = true := decide_eq_true c31
               clear c31
               by_cases c32 : x20_4 < ((rd_L3 t766 x19_3).length : Int)
               ·rw [if_pos c32] at H
                have c32b0 : decide (x20_4 < ((rd_L3 t766 x19_3).length : Int)) = true := decide_eq_true c32
                clear c32
                by_cases c33 : 0 ≤ x20_4
                ·rw [if_pos c33] at H
                 have c33b0 : decide (0 ≤ x20_4) = true := decide_eq_true c33
                 clear c33
                 by_cases c34 : (rd (rd_L3 t766 x19_3) x20_4) < 0
                 ·rw [if_pos c34] at H
                  have c34b0 : decide ((rd (rd_L3 t766 x19_3) x20_4) < 0) = true := decide_eq_true c34
                  clear c34
                  obtain rfl := Option.some.inj H
                  have p782 : 0 ≤ (x19_3 : Int) := of_decide_eq_true (by first | (with_reducible assumption) | assumption)
                  have q782 : x19_3 < (t766.length : Int) := of_decide_eq_true (by first | (with_reducible assumption) | assumption)
                  obtain ⟨ad782, A782_0, c782_0, e782, hx782_0, hl782_0, hi782_0⟩ := at_L3 (Kd.S_reads' HO_9.out).2.2 x19_3 p782 q782
                  cases e782
                  obtain ⟨ce782, hce782, hMe782, hcc782⟩ := Kd.S_get HO_9.out [] x19_3 p782 (by first | exact q782 | exact of_decide_eq_true (by first | (with_reducible assumption) | assumption) | (have e_ := (Kd.S_reads' HO_9.out).1; omega))
                  obtain ⟨ve782_0, rfl, ge782_0⟩ := hMe782
                  have hv782_0 := hcc782 0 _ rfl
                  rw [Nat.add_zero, show ((Kd.slice 3 (Kd.int .i64))).sz = 1 from rfl, Nat.mul_one] at hv782_0
                  replace hv782_0 := Option.some.inj (hv782_0.symm.trans hx782_0)
                  rw [hv782_0] at ge782_0
                  have HL782_0 := Aside0.mk (show Kd.R (Kd.int .i64) 3 _ _ _ _ (rd_L3 t766 x19_3) from ge782_0)
                  clear hv782_0 ge782_0
                  clear hcc782 hce782
                  have HR782_0 := Aside0.mk hi782_0
                  have HC782_0 := Aside0.mk hl782_0
                  clear hi782_0 hl782_0
                  replace p782 := eq_true p782
                  replace q782 := eq_true q782
                  have p783 : 0 ≤ (x19_3 : Int) := of_decide_eq_true (by first | (with_reducible assumption) | assumption)
                  have q783 : x19_3 < (t766.length : Int) := of_decide_eq_true (by first | (with_reducible assumption) | assumption)
                  obtain ⟨ad783, A783_0, c783_0, e783, hx783_0, hl783_0, hi783_0⟩ := at_L3 (Kd.S_reads' HO_9.out).2.2 x19_3 p783 q783
                  obtain rfl : ad782 = ad783 := (by injection e783)
                  obtain ⟨ce783, hce783, hMe783, hcc783⟩ := Kd.S_get HO_9.out [] x19_3 p783 (by first | exact q783 | exact of_decide_eq_true (by first | (with_reducible assumption) | assumption) | (have e_ := (Kd.S_reads' HO_9.out).1; omega))
                  obtain ⟨ve783_0, rfl, ge783_0⟩ := hMe783
                  have hv783_0 := hcc783 0 _ rfl
                  rw [Nat.add_zero, show ((Kd.slice 3 (Kd.int .i64))).sz = 1 from rfl, Nat.mul_one] at hv783_0
                  replace hv783_0 := Option.some.inj (hv783_0.symm.trans hx783_0)
                  rw [hv783_0] at ge783_0
                  have HL783_0 := Aside0.mk (show Kd.R (Kd.int .i64) 3 _ _ _ _ (rd_L3 t766 x19_3) from ge783_0)
                  clear hv783_0 ge783_0
                  clear hcc783 hce783
                  have HR783_0 := Aside0.mk hi783_0
                  have HC783_0 := Aside0.mk hl783_0
                  clear hi783_0 hl783_0
                  replace p783 := eq_true p783
                  replace q783 := eq_true q783
                  have ea_ := Option.some.inj (hx782_0.symm.trans hx783_0)
                  injection ea_ with ea_ en_ ec_
                  subst ea_
                  subst ec_
                  clear en_
                  have p784 : 0 ≤ (x20_4 : Int) := of_decide_eq_true (by first | (with_reducible assumption) | assumption)
                  have q784 : x20_4 < ((rd_L3 t766 x19_3).length : Int) := of_decide_eq_true (by first | (with_reducible assumption) | assumption)
                  obtain ⟨ad784, e784, hx784_0⟩ := Kd.at_int (by repeat (first | (with_reducible exact HR783_0.out) | (with_reducible refine Kd.C_alloc ?_ _) | (with_reducible refine Kd.C_drewN ?_ _) | (with_reducible refine Kd.C_drew ?_) | exact HR783_0.out)) x20_4 p784 q784
                  cases e784
                  replace p784 := eq_true p784
                  replace q784 := eq_true q784
                  go_wp2
                  repeat (go_quiet (fail); try go_wp2)
                  go_ret
                  exact ⟨by first | rfl | (simp [errW_none, errW_some] <;> rfl) | (simp [*, errW_none, errW_some] <;> rfl), by repeat (first | (with_reducible first | exact HB.out | apply below_alloc | apply pw_below_drewN | apply below_drew1) | exact HB.out)⟩
                 ·rw [if_neg c34] at H
                  have c34b0 : decide ((rd (rd_L3 t766 x19_3) x20_4) < 0) = false := decide_eq_false c34
                  clear c34
                  by_cases c35 : (rd (rd_L3 t766 x19_3) x20_4) ≥ t759
                  ·rw [if_pos c35] at H
                   have c35b0 : decide (t759 ≤ (rd (rd_L3 t766 x19_3) x20_4)) = true := decide_eq_true c35
                   clear c35
                   obtain rfl := Option.some.inj H
                   have p782 : 0 ≤ (x19_3 : Int) := of_decide_eq_true (by first | (with_reducible assumption) | assumption)
                   have q782 : x19_3 < (t766.length : Int) := of_decide_eq_true (by first | (with_reducible assumption) | assumption)
                   obtain ⟨ad782, A782_0, c782_0, e782, hx782_0, hl782_0, hi782_0⟩ := at_L3 (Kd.S_reads' HO_9.out).2.2 x19_3 p782 q782
                   cases e782
                   obtain ⟨ce782, hce782, hMe782, hcc782⟩ := Kd.S_get HO_9.out [] x19_3 p782 (by first | exact q782 | exact of_decide_eq_true (by first | (with_reducible assumption) | assumption) | (have e_ := (Kd.S_reads' HO_9.out).1; omega))
                   obtain ⟨ve782_0, rfl, ge782_0⟩ := hMe782
                   have hv782_0 := hcc782 0 _ rfl
                   rw [Nat.add_zero, show ((Kd.slice 3 (Kd.int .i64))).sz = 1 from rfl, Nat.mul_one] at hv782_0
                   replace hv782_0 := Option.some.inj (hv782_0.symm.trans hx782_0)
                   rw [hv782_0] at ge782_0
                   have HL782_0 := Aside0.mk (show Kd.R (Kd.int .i64) 3 _ _ _ _ (rd_L3 t766 x19_3) from ge782_0)
                   clear hv782_0 ge782_0
                   clear hcc782 hce782
                   have HR782_0 := Aside0.mk hi782_0
                   have HC782_0 := Aside0.mk hl782_0
                   clear hi782_0 hl782_0
                   replace p782 := eq_true p782
                   replace q782 := eq_true q782
                   have p783 : 0 ≤ (x19_3 : Int) := of_decide_eq_true (by first | (with_reducible assumption) | assumption)
                   have q783 : x19_3 < (t766.length : Int) := of_decide_eq_true (by first | (with_reducible assumption) | assumption)
                   obtain ⟨ad783, A783_0, c783_0, e783, hx783_0, hl783_0, hi783_0⟩ := at_L3 (Kd.S_reads' HO_9.out).2.2 x19_3 p783 q783
                   obtain rfl : ad782 = ad783 := (by injection e783)
                   obtain ⟨ce783, hce783, hMe783, hcc783⟩ := Kd.S_get HO_9.out [] x19_3 p783 (by first | exact q783 | exact of_decide_eq_true (by first | (with_reducible assumption) | assumption) | (have e_ := (Kd.S_reads' HO_9.out).1; omega))
                   obtain ⟨ve783_0, rfl, ge783_0⟩ := hMe783
                   have hv783_0 := hcc783 0 _ rfl
                   rw [Nat.add_zero, show ((Kd.slice 3 (Kd.int .i64))).sz = 1 from rfl, Nat.mul_one] at hv783_0
                   replace hv783_0 := Option.some.inj (hv783_0.symm.trans hx783_0)
                   rw [hv783_0] at ge783_0
                   have HL783_0 := Aside0.mk (show Kd.R (Kd.int .i64) 3 _ _ _ _ (rd_L3 t766 x19_3) from ge783_0)
                   clear hv783_0 ge783_0
                   clear hcc783 hce783
                   have HR783_0 := Aside0.mk hi783_0
                   have HC783_0 := Aside0.mk hl783_0
                   clear hi783_0 hl783_0
                   replace p783 := eq_true p783
                   replace q783 := eq_true q783
                   have ea_ := Option.some.inj (hx782_0.symm.trans hx783_0)
                   injection ea_ with ea_ en_ ec_
                   subst ea_
                   subst ec_
                   clear en_
                   have p784 : 0 ≤ (x20_4 : Int) := of_decide_eq_true (by first | (with_reducible assumption) | assumption)
                   have q784 : x20_4 < ((rd_L3 t766 x19_3).length : Int) := of_decide_eq_true (by first | (with_reducible assumption) | assumption)
                   obtain ⟨ad784, e784, hx784_0⟩ := Kd.at_int (by repeat (first | (with_reducible exact HR783_0.out) | (with_reducible refine Kd.C_alloc ?_ _) | (with_reducible refine Kd.C_drewN ?_ _) | (with_reducible refine Kd.C_drew ?_) | exact HR783_0.out)) x20_4 p784 q784
                   cases e784
                   replace p784 := eq_true p784
                   replace q784 := eq_true q784
                   go_wp2
                   repeat (go_quiet (fail); try go_wp2)
                   go_ret
                   exact ⟨by first | rfl | (simp [errW_none, errW_some] <;> rfl) | (simp [*, errW_none, errW_some] <;> rfl), by repeat (first | (with_reducible first | exact HB.out | apply below_alloc | apply pw_below_drewN | apply below_drew1) | exact HB.out)⟩
                  ·rw [if_neg c35] at H
                   have c35b0 : decide (t759 ≤ (rd (rd_L3 t766 x19_3) x20_4)) = false := decide_eq_false c35
                   clear c35
                   by_cases c36 : 0 ≤ (rd (rd_L3 t766 x19_3) x20_4)
                   ·rw [if_pos c36] at H
                    have c36b0 := eq_true c36
                    have c36b1 : decide (0 ≤ (rd (rd_L3 t766 x19_3) x20_4)) = true := decide_eq_true c36
                    clear c36
                    obtain ⟨ji37, hji37⟩ : ∃ j_ : Int, (shr .i64 x17_4 (rd (rd_L3 t766 x19_3) x20_4)) = j_ := ⟨_, rfl⟩
                    replace H : (if (Int.tmod (ji37) 2) = 1 then (some false) else (if x20_4 > 0 then (if (rd (rd_L3 t766 x19_3) x20_4) < (t776.length : Int) then (if 0 ≤ (wrap64 (x20_4 - 1)) then (if (wrap64 (x20_4 - 1)) < ((rd_L3 t766 x19_3).length : Int) then (if 0 ≤ (rd (rd_L3 t766 x19_3) (wrap64 (x20_4 - 1))) then (if (Int.tmod (shr .i64 (rd t776 (rd (rd_L3 t766 x19_3) x20_4)) (rd (rd_L3 t766 x19_3) (wrap64 (x20_4 - 1)))) 2) = 0 then (some false) else (if x20_4 = 0 then (if x19_3 ≥ (t763.length : Int) then (some false) else (if x19_3 < (t763.length : Int) then (if (rd t763 x19_3) = (rd (rd_L3 t766 x19_3) x20_4) then (numnahlaw06_WettingChained.l2 k4 t759 t763 t766 t776 x15_2 (Go.bits .or .i64 x17_4 (shl .i64 1 (rd (rd_L3 t766 x19_3) x20_4))) (wrap64 (x18_4 + 1)) x19_3 (wrap64 (x20_4 + 1))) else (some false)) else (none))) else (numnahlaw06_WettingChained.l2 k4 t759 t763 t766 t776 x15_2 (Go.bits .or .i64 x17_4 (shl .i64 1 (rd (rd_L3 t766 x19_3) x20_4))) (wrap64 (x18_4 + 1)) x19_3 (wrap64 (x20_4 + 1))))) else (none)) else (none)) else (none)) else (none)) else (if x20_4 = 0 then (if x19_3 ≥ (t763.length : Int) then (some false) else (if x19_3 < (t763.length : Int) then (if (rd t763 x19_3) = (rd (rd_L3 t766 x19_3) x20_4) then (numnahlaw06_WettingChained.l2 k4 t759 t763 t766 t776 x15_2 (Go.bits .or .i64 x17_4 (shl .i64 1 (rd (rd_L3 t766 x19_3) x20_4))) (wrap64 (x18_4 + 1)) x19_3 (wrap64 (x20_4 + 1))) else (some false)) else (none))) else (numnahlaw06_WettingChained.l2 k4 t759 t763 t766 t776 x15_2 (Go.bits .or .i64 x17_4 (shl .i64 1 (rd (rd_L3 t766 x19_3) x20_4))) (wrap64 (x18_4 + 1)) x19_3 (wrap64 (x20_4 + 1)))))) = some r := by first | (rw [hji37] at H; exact H) | (simp only [hji37] at H ⊢; exact H)
                    have hji37_ : (x17_4 / 2 ^ min (rd (rd_L3 t766 x19_3) x20_4).toNat 64) = ji37 := hji37
                    have hji37z : (rd (rd_L3 t766 x19_3) x20_4) ≤ 64 → (x17_4 / 2 ^ (rd (rd_L3 t766 x19_3) x20_4).toNat) = ji37 := shr_small hji37
                    by_cases c38 : (Int.tmod (ji37) 2) = 1
                    ·rw [if_pos c38] at H
                     have c38b0 : ((Int.tmod (ji37) 2) == 1) = true := beq_iff_eq.mpr c38
                     have c38b1 : ((Int.tmod (ji37) 2) != 1) = false := bne_eq_false_iff_eq.mpr c38
                     clear c38
                     obtain rfl := Option.some.inj H
                     have p782 : 0 ≤ (x19_3 : Int) := of_decide_eq_true (by first | (with_reducible assumption) | assumption)
                     have q782 : x19_3 < (t766.length : Int) := of_decide_eq_true (by first | (with_reducible assumption) | assumption)
                     obtain ⟨ad782, A782_0, c782_0, e782, hx782_0, hl782_0, hi782_0⟩ := at_L3 (Kd.S_reads' HO_9.out).2.2 x19_3 p782 q782
                     cases e782
                     obtain ⟨ce782, hce782, hMe782, hcc782⟩ := Kd.S_get HO_9.out [] x19_3 p782 (by first | exact q782 | exact of_decide_eq_true (by first | (with_reducible assumption) | assumption) | (have e_ := (Kd.S_reads' HO_9.out).1; omega))
                     obtain ⟨ve782_0, rfl, ge782_0⟩ := hMe782
                     have hv782_0 := hcc782 0 _ rfl
                     rw [Nat.add_zero, show ((Kd.slice 3 (Kd.int .i64))).sz = 1 from rfl, Nat.mul_one] at hv782_0
                     replace hv782_0 := Option.some.inj (hv782_0.symm.trans hx782_0)
                     rw [hv782_0] at ge782_0
                     have HL782_0 := Aside0.mk (show Kd.R (Kd.int .i64) 3 _ _ _ _ (rd_L3 t766 x19_3) from ge782_0)
                     clear hv782_0 ge782_0
                     clear hcc782 hce782
                     have HR782_0 := Aside0.mk hi782_0
                     have HC782_0 := Aside0.mk hl782_0
                     clear hi782_0 hl782_0
                     replace p782 := eq_true p782
                     replace q782 := eq_true q782
                     have p783 : 0 ≤ (x19_3 : Int) := of_decide_eq_true (by first | (with_reducible assumption) | assumption)
                     have q783 : x19_3 < (t766.length : Int) := of_decide_eq_true (by first | (with_reducible assumption) | assumption)
                     obtain ⟨ad783, A783_0, c783_0, e783, hx783_0, hl783_0, hi783_0⟩ := at_L3 (Kd.S_reads' HO_9.out).2.2 x19_3 p783 q783
                     obtain rfl : ad782 = ad783 := (by injection e783)
                     obtain ⟨ce783, hce783, hMe783, hcc783⟩ := Kd.S_get HO_9.out [] x19_3 p783 (by first | exact q783 | exact of_decide_eq_true (by first | (with_reducible assumption) | assumption) | (have e_ := (Kd.S_reads' HO_9.out).1; omega))
                     obtain ⟨ve783_0, rfl, ge783_0⟩ := hMe783
                     have hv783_0 := hcc783 0 _ rfl
                     rw [Nat.add_zero, show ((Kd.slice 3 (Kd.int .i64))).sz = 1 from rfl, Nat.mul_one] at hv783_0
                     replace hv783_0 := Option.some.inj (hv783_0.symm.trans hx783_0)
                     rw [hv783_0] at ge783_0
                     have HL783_0 := Aside0.mk (show Kd.R (Kd.int .i64) 3 _ _ _ _ (rd_L3 t766 x19_3) from ge783_0)
                     clear hv783_0 ge783_0
                     clear hcc783 hce783
                     have HR783_0 := Aside0.mk hi783_0
                     have HC783_0 := Aside0.mk hl783_0
                     clear hi783_0 hl783_0
                     replace p783 := eq_true p783
                     replace q783 := eq_true q783
                     have ea_ := Option.some.inj (hx782_0.symm.trans hx783_0)
                     injection ea_ with ea_ en_ ec_
                     subst ea_
                     subst ec_
                     clear en_
                     have p784 : 0 ≤ (x20_4 : Int) := of_decide_eq_true (by first | (with_reducible assumption) | assumption)
                     have q784 : x20_4 < ((rd_L3 t766 x19_3).length : Int) := of_decide_eq_true (by first | (with_reducible assumption) | assumption)
                     obtain ⟨ad784, e784, hx784_0⟩ := Kd.at_int (by repeat (first | (with_reducible exact HR783_0.out) | (with_reducible refine Kd.C_alloc ?_ _) | (with_reducible refine Kd.C_drewN ?_ _) | (with_reducible refine Kd.C_drew ?_) | exact HR783_0.out)) x20_4 p784 q784
                     cases e784
                     replace p784 := eq_true p784
                     replace q784 := eq_true q784
                     go_wp2
                     repeat (go_quiet (fail); try go_wp2)
                     go_ret
                     exact ⟨by first | rfl | (simp [errW_none, errW_some] <;> rfl) | (simp only [← hji37]; first | rfl | (simp [errW_none, errW_some] <;> rfl)) | (simp [*, errW_none, errW_some] <;> rfl), by repeat (first | (with_reducible first | exact HB.out | apply below_alloc | apply pw_below_drewN | apply below_drew1) | exact HB.out)⟩
                    ·rw [if_neg c38] at H
                     have c38b0 : ((Int.tmod (ji37) 2) == 1) = false := beq_eq_false_iff_ne.mpr c38
                     have c38b1 : ((Int.tmod (ji37) 2) != 1) = true := bne_iff_ne.mpr c38
                     by_cases c39 : x20_4 > 0
                     ·rw [if_pos c39] at H
                      have c39b0 : decide (0 < x20_4) = true := decide_eq_true c39
                      clear c39
                      by_cases c40 : (rd (rd_L3 t766 x19_3) x20_4) < (t776.length : Int)
                      ·rw [if_pos c40] at H
                       have c40b0 : decide ((rd (rd_L3 t766 x19_3) x20_4) < (t776.length : Int)) = true := decide_eq_true c40
                       clear c40
                       obtain ⟨ji41, hji41⟩ : ∃ j_ : Int, (wrap64 (x20_4 - 1)) = j_ := ⟨_, rfl⟩
                       replace H : (if 0 ≤ (ji41) then (if (ji41) < ((rd_L3 t766 x19_3).length : Int) then (if 0 ≤ (rd (rd_L3 t766 x19_3) (ji41)) then (if (Int.tmod (shr .i64 (rd t776 (rd (rd_L3 t766 x19_3) x20_4)) (rd (rd_L3 t766 x19_3) (ji41))) 2) = 0 then (some false) else (if x20_4 = 0 then (if x19_3 ≥ (t763.length : Int) then (some false) else (if x19_3 < (t763.length : Int) then (if (rd t763 x19_3) = (rd (rd_L3 t766 x19_3) x20_4) then (numnahlaw06_WettingChained.l2 k4 t759 t763 t766 t776 x15_2 (Go.bits .or .i64 x17_4 (shl .i64 1 (rd (rd_L3 t766 x19_3) x20_4))) (wrap64 (x18_4 + 1)) x19_3 (wrap64 (x20_4 + 1))) else (some false)) else (none))) else (numnahlaw06_WettingChained.l2 k4 t759 t763 t766 t776 x15_2 (Go.bits .or .i64 x17_4 (shl .i64 1 (rd (rd_L3 t766 x19_3) x20_4))) (wrap64 (x18_4 + 1)) x19_3 (wrap64 (x20_4 + 1))))) else (none)) else (none)) else (none)) = some r := by first | (rw [hji41] at H; exact H) | (simp only [hji41] at H ⊢; exact H)
                       have hji41w : (IntKind.i64.wrap (x20_4 - 1)) = ji41 := (i64_w _).trans hji41
                       by_cases c42 : 0 ≤ (ji41)
                       ·rw [if_pos c42] at H
                        have c42b0 : decide (0 ≤ (ji41)) = true := decide_eq_true c42
                        clear c42
                        by_cases c43 : (ji41) < ((rd_L3 t766 x19_3).length : Int)
                        ·rw [if_pos c43] at H
                         have c43b0 : decide ((ji41) < ((rd_L3 t766 x19_3).length : Int)) = true := decide_eq_true c43
                         clear c43
                         by_cases c44 : 0 ≤ (rd (rd_L3 t766 x19_3) (ji41))
                         ·rw [if_pos c44] at H
                          have c44b0 := eq_true c44
                          have c44b1 : decide (0 ≤ (rd (rd_L3 t766 x19_3) (ji41))) = true := decide_eq_true c44
                          clear c44
                          obtain ⟨ji45, hji45⟩ : ∃ j_ : Int, (shr .i64 (rd t776 (rd (rd_L3 t766 x19_3) x20_4)) (rd (rd_L3 t766 x19_3) (ji41))) = j_ := ⟨_, rfl⟩
                          replace H : (if (Int.tmod (ji45) 2) = 0 then (some false) else (if x20_4 = 0 then (if x19_3 ≥ (t763.length : Int) then (some false) else (if x19_3 < (t763.length : Int) then (if (rd t763 x19_3) = (rd (rd_L3 t766 x19_3) x20_4) then (numnahlaw06_WettingChained.l2 k4 t759 t763 t766 t776 x15_2 (Go.bits .or .i64 x17_4 (shl .i64 1 (rd (rd_L3 t766 x19_3) x20_4))) (wrap64 (x18_4 + 1)) x19_3 (wrap64 (x20_4 + 1))) else (some false)) else (none))) else (numnahlaw06_WettingChained.l2 k4 t759 t763 t766 t776 x15_2 (Go.bits .or .i64 x17_4 (shl .i64 1 (rd (rd_L3 t766 x19_3) x20_4))) (wrap64 (x18_4 + 1)) x19_3 (wrap64 (x20_4 + 1))))) = some r := by first | (rw [hji45] at H; exact H) | (simp only [hji45] at H ⊢; exact H)
                          have hji45_ : ((rd t776 (rd (rd_L3 t766 x19_3) x20_4)) / 2 ^ min (rd (rd_L3 t766 x19_3) (ji41)).toNat 64) = ji45 := hji45
                          have hji45z : (rd (rd_L3 t766 x19_3) (ji41)) ≤ 64 → ((rd t776 (rd (rd_L3 t766 x19_3) x20_4)) / 2 ^ (rd (rd_L3 t766 x19_3) (ji41)).toNat) = ji45 := shr_small hji45
                          by_cases c46 : (Int.tmod (ji45) 2) = 0
                          ·rw [if_pos c46] at H
                           have c46b0 : ((Int.tmod (ji45) 2) == 0) = true := beq_iff_eq.mpr c46
                           have c46b1 : ((Int.tmod (ji45) 2) != 0) = false := bne_eq_false_iff_eq.mpr c46
                           clear c46
                           obtain rfl := Option.some.inj H
                           have p782 : 0 ≤ (x19_3 : Int) := of_decide_eq_true (by first | (with_reducible assumption) | assumption)
                           have q782 : x19_3 < (t766.length : Int) := of_decide_eq_true (by first | (with_reducible assumption) | assumption)
                           obtain ⟨ad782, A782_0, c782_0, e782, hx782_0, hl782_0, hi782_0⟩ := at_L3 (Kd.S_reads' HO_9.out).2.2 x19_3 p782 q782
                           cases e782
                           obtain ⟨ce782, hce782, hMe782, hcc782⟩ := Kd.S_get HO_9.out [] x19_3 p782 (by first | exact q782 | exact of_decide_eq_true (by first | (with_reducible assumption) | assumption) | (have e_ := (Kd.S_reads' HO_9.out).1; omega))
                           obtain ⟨ve782_0, rfl, ge782_0⟩ := hMe782
                           have hv782_0 := hcc782 0 _ rfl
                           rw [Nat.add_zero, show ((Kd.slice 3 (Kd.int .i64))).sz = 1 from rfl, Nat.mul_one] at hv782_0
                           replace hv782_0 := Option.some.inj (hv782_0.symm.trans hx782_0)
                           rw [hv782_0] at ge782_0
                           have HL782_0 := Aside0.mk (show Kd.R (Kd.int .i64) 3 _ _ _ _ (rd_L3 t766 x19_3) from ge782_0)
                           clear hv782_0 ge782_0
                           clear hcc782 hce782
                           have HR782_0 := Aside0.mk hi782_0
                           have HC782_0 := Aside0.mk hl782_0
                           clear hi782_0 hl782_0
                           replace p782 := eq_true p782
                           replace q782 := eq_true q782
                           have p783 : 0 ≤ (x19_3 : Int) := of_decide_eq_true (by first | (with_reducible assumption) | assumption)
                           have q783 : x19_3 < (t766.length : Int) := of_decide_eq_true (by first | (with_reducible assumption) | assumption)
                           obtain ⟨ad783, A783_0, c783_0, e783, hx783_0, hl783_0, hi783_0⟩ := at_L3 (Kd.S_reads' HO_9.out).2.2 x19_3 p783 q783
                           obtain rfl : ad782 = ad783 := (by injection e783)
                           obtain ⟨ce783, hce783, hMe783, hcc783⟩ := Kd.S_get HO_9.out [] x19_3 p783 (by first | exact q783 | exact of_decide_eq_true (by first | (with_reducible assumption) | assumption) | (have e_ := (Kd.S_reads' HO_9.out).1; omega))
                           obtain ⟨ve783_0, rfl, ge783_0⟩ := hMe783
                           have hv783_0 := hcc783 0 _ rfl
                           rw [Nat.add_zero, show ((Kd.slice 3 (Kd.int .i64))).sz = 1 from rfl, Nat.mul_one] at hv783_0
                           replace hv783_0 := Option.some.inj (hv783_0.symm.trans hx783_0)
                           rw [hv783_0] at ge783_0
                           have HL783_0 := Aside0.mk (show Kd.R (Kd.int .i64) 3 _ _ _ _ (rd_L3 t766 x19_3) from ge783_0)
                           clear hv783_0 ge783_0
                           clear hcc783 hce783
                           have HR783_0 := Aside0.mk hi783_0
                           have HC783_0 := Aside0.mk hl783_0
                           clear hi783_0 hl783_0
                           replace p783 := eq_true p783
                           replace q783 := eq_true q783
                           have ea_ := Option.some.inj (hx782_0.symm.trans hx783_0)
                           injection ea_ with ea_ en_ ec_
                           subst ea_
                           subst ec_
                           clear en_
                           have p784 : 0 ≤ (x20_4 : Int) := of_decide_eq_true (by first | (with_reducible assumption) | assumption)
                           have q784 : x20_4 < ((rd_L3 t766 x19_3).length : Int) := of_decide_eq_true (by first | (with_reducible assumption) | assumption)
                           obtain ⟨ad784, e784, hx784_0⟩ := Kd.at_int (by repeat (first | (with_reducible exact HR783_0.out) | (with_reducible refine Kd.C_alloc ?_ _) | (with_reducible refine Kd.C_drewN ?_ _) | (with_reducible refine Kd.C_drew ?_) | exact HR783_0.out)) x20_4 p784 q784
                           cases e784
                           replace p784 := eq_true p784
                           replace q784 := eq_true q784
                           obtain ⟨Ao47, co47, eo47⟩ := Kd.R_slice HO_14.out
                           subst eo47
                           have p785 : 0 ≤ ((rd (rd_L3 t766 x19_3) x20_4) : Int) := of_decide_eq_true (by first | (with_reducible assumption) | assumption)
                           have q785 : (rd (rd_L3 t766 x19_3) x20_4) < (t776.length : Int) := of_decide_eq_true (by first | (with_reducible assumption) | assumption)
                           obtain ⟨ad785, e785, hx785_0⟩ := Kd.at_int (Kd.R_reads' HO_14.out).2.2 (rd (rd_L3 t766 x19_3) x20_4) p785 q785
                           cases e785
                           replace p785 := eq_true p785
                           replace q785 := eq_true q785
                           have p786 : 0 ≤ (x19_3 : Int) := of_decide_eq_true (by first | (with_reducible assumption) | assumption)
                           have q786 : x19_3 < (t766.length : Int) := of_decide_eq_true (by first | (with_reducible assumption) | assumption)
                           obtain ⟨ad786, A786_0, c786_0, e786, hx786_0, hl786_0, hi786_0⟩ := at_L3 (Kd.S_reads' HO_9.out).2.2 x19_3 p786 q786
                           obtain rfl : ad782 = ad786 := (by injection e786)
                           obtain ⟨ce786, hce786, hMe786, hcc786⟩ := Kd.S_get HO_9.out [] x19_3 p786 (by first | exact q786 | exact of_decide_eq_true (by first | (with_reducible assumption) | assumption) | (have e_ := (Kd.S_reads' HO_9.out).1; omega))
                           obtain ⟨ve786_0, rfl, ge786_0⟩ := hMe786
                           have hv786_0 := hcc786 0 _ rfl
                           rw [Nat.add_zero, show ((Kd.slice 3 (Kd.int .i64))).sz = 1 from rfl, Nat.mul_one] at hv786_0
                           replace hv786_0 := Option.some.inj (hv786_0.symm.trans hx786_0)
                           rw [hv786_0] at ge786_0
                           have HL786_0 := Aside0.mk (show Kd.R (Kd.int .i64) 3 _ _ _ _ (rd_L3 t766 x19_3) from ge786_0)
                           clear hv786_0 ge786_0
                           clear hcc786 hce786
                           have HR786_0 := Aside0.mk hi786_0
                           have HC786_0 := Aside0.mk hl786_0
                           clear hi786_0 hl786_0
                           replace p786 := eq_true p786
                           replace q786 := eq_true q786
                           have ea_ := Option.some.inj (hx782_0.symm.trans hx786_0)
                           injection ea_ with ea_ en_ ec_
                           subst ea_
                           subst ec_
                           clear en_
                           have p787 : 0 ≤ ((ji41) : Int) := of_decide_eq_true (by first | (with_reducible assumption) | assumption)
                           have q787 : (ji41) < ((rd_L3 t766 x19_3).length : Int) := of_decide_eq_true (by first | (with_reducible assumption) | assumption)
                           obtain ⟨ad787, e787, hx787_0⟩ := Kd.at_int (by repeat (first | (with_reducible exact HR786_0.out) | (with_reducible refine Kd.C_alloc ?_ _) | (with_reducible refine Kd.C_drewN ?_ _) | (with_reducible refine Kd.C_drew ?_) | exact HR786_0.out)) (ji41) p787 q787
                           cases e787
                           replace p787 := eq_true p787
                           replace q787 := eq_true q787
                           go_wp2
                           repeat (go_quiet (fail); try go_wp2)
                           go_ret
                           exact ⟨by first | rfl | (simp [errW_none, errW_some] <;> rfl) | (simp only [← hji37, ← hji41, ← hji45]; first | rfl | (simp [errW_none, errW_some] <;> rfl)) | (simp [*, errW_none, errW_some] <;> rfl), by repeat (first | (with_reducible first | exact HB.out | apply below_alloc | apply pw_below_drewN | apply below_drew1) | exact HB.out)⟩
                          ·rw [if_neg c46] at H
                           have c46b0 : ((Int.tmod (ji45) 2) == 0) = false := beq_eq_false_iff_ne.mpr c46
                           have c46b1 : ((Int.tmod (ji45) 2) != 0) = true := bne_iff_ne.mpr c46
                           by_cases c48 : x20_4 = 0
                           ·rw [if_pos c48] at H
                            have c48b0 : (x20_4 == 0) = true := beq_iff_eq.mpr c48
                            have c48b1 : (x20_4 != 0) = false := bne_eq_false_iff_eq.mpr c48
                            clear c48
                            by_cases c49 : x19_3 ≥ (t763.length : Int)
                            ·rw [if_pos c49] at H
                             have c49b0 : decide ((t763.length : Int) ≤ x19_3) = true := decide_eq_true c49
                             clear c49
                             obtain rfl := Option.some.inj H
                             have p782 : 0 ≤ (x19_3 : Int) := of_decide_eq_true (by first | (with_reducible assumption) | assumption)
                             have q782 : x19_3 < (t766.length : Int) := of_decide_eq_true (by first | (with_reducible assumption) | assumption)
                             obtain ⟨ad782, A782_0, c782_0, e782, hx782_0, hl782_0, hi782_0⟩ := at_L3 (Kd.S_reads' HO_9.out).2.2 x19_3 p782 q782
                             cases e782
                             obtain ⟨ce782, hce782, hMe782, hcc782⟩ := Kd.S_get HO_9.out [] x19_3 p782 (by first | exact q782 | exact of_decide_eq_true (by first | (with_reducible assumption) | assumption) | (have e_ := (Kd.S_reads' HO_9.out).1; omega))
                             obtain ⟨ve782_0, rfl, ge782_0⟩ := hMe782
                             have hv782_0 := hcc782 0 _ rfl
                             rw [Nat.add_zero, show ((Kd.slice 3 (Kd.int .i64))).sz = 1 from rfl, Nat.mul_one] at hv782_0
                             replace hv782_0 := Option.some.inj (hv782_0.symm.trans hx782_0)
                             rw [hv782_0] at ge782_0
                             have HL782_0 := Aside0.mk (show Kd.R (Kd.int .i64) 3 _ _ _ _ (rd_L3 t766 x19_3) from ge782_0)
                             clear hv782_0 ge782_0
                             clear hcc782 hce782
                             have HR782_0 := Aside0.mk hi782_0
                             have HC782_0 := Aside0.mk hl782_0
                             clear hi782_0 hl782_0
                             replace p782 := eq_true p782
                             replace q782 := eq_true q782
                             have p783 : 0 ≤ (x19_3 : Int) := of_decide_eq_true (by first | (with_reducible assumption) | assumption)
                             have q783 : x19_3 < (t766.length : Int) := of_decide_eq_true (by first | (with_reducible assumption) | assumption)
                             obtain ⟨ad783, A783_0, c783_0, e783, hx783_0, hl783_0, hi783_0⟩ := at_L3 (Kd.S_reads' HO_9.out).2.2 x19_3 p783 q783
                             obtain rfl : ad782 = ad783 := (by injection e783)
                             obtain ⟨ce783, hce783, hMe783, hcc783⟩ := Kd.S_get HO_9.out [] x19_3 p783 (by first | exact q783 | exact of_decide_eq_true (by first | (with_reducible assumption) | assumption) | (have e_ := (Kd.S_reads' HO_9.out).1; omega))
                             obtain ⟨ve783_0, rfl, ge783_0⟩ := hMe783
                             have hv783_0 := hcc783 0 _ rfl
                             rw [Nat.add_zero, show ((Kd.slice 3 (Kd.int .i64))).sz = 1 from rfl, Nat.mul_one] at hv783_0
                             replace hv783_0 := Option.some.inj (hv783_0.symm.trans hx783_0)
                             rw [hv783_0] at ge783_0
                             have HL783_0 := Aside0.mk (show Kd.R (Kd.int .i64) 3 _ _ _ _ (rd_L3 t766 x19_3) from ge783_0)
                             clear hv783_0 ge783_0
                             clear hcc783 hce783
                             have HR783_0 := Aside0.mk hi783_0
                             have HC783_0 := Aside0.mk hl783_0
                             clear hi783_0 hl783_0
                             replace p783 := eq_true p783
                             replace q783 := eq_true q783
                             have ea_ := Option.some.inj (hx782_0.symm.trans hx783_0)
                             injection ea_ with ea_ en_ ec_
                             subst ea_
                             subst ec_
                             clear en_
                             have p784 : 0 ≤ (x20_4 : Int) := of_decide_eq_true (by first | (with_reducible assumption) | assumption)
                             have q784 : x20_4 < ((rd_L3 t766 x19_3).length : Int) := of_decide_eq_true (by first | (with_reducible assumption) | assumption)
                             obtain ⟨ad784, e784, hx784_0⟩ := Kd.at_int (by repeat (first | (with_reducible exact HR783_0.out) | (with_reducible refine Kd.C_alloc ?_ _) | (with_reducible refine Kd.C_drewN ?_ _) | (with_reducible refine Kd.C_drew ?_) | exact HR783_0.out)) x20_4 p784 q784
                             cases e784
                             replace p784 := eq_true p784
                             replace q784 := eq_true q784
                             obtain ⟨Ao50, co50, eo50⟩ := Kd.R_slice HO_14.out
                             subst eo50
                             have p785 : 0 ≤ ((rd (rd_L3 t766 x19_3) x20_4) : Int) := of_decide_eq_true (by first | (with_reducible assumption) | assumption)
                             have q785 : (rd (rd_L3 t766 x19_3) x20_4) < (t776.length : Int) := of_decide_eq_true (by first | (with_reducible assumption) | assumption)
                             obtain ⟨ad785, e785, hx785_0⟩ := Kd.at_int (Kd.R_reads' HO_14.out).2.2 (rd (rd_L3 t766 x19_3) x20_4) p785 q785
                             cases e785
                             replace p785 := eq_true p785
                             replace q785 := eq_true q785
                             have p786 : 0 ≤ (x19_3 : Int) := of_decide_eq_true (by first | (with_reducible assumption) | assumption)
                             have q786 : x19_3 < (t766.length : Int) := of_decide_eq_true (by first | (with_reducible assumption) | assumption)
                             obtain ⟨ad786, A786_0, c786_0, e786, hx786_0, hl786_0, hi786_0⟩ := at_L3 (Kd.S_reads' HO_9.out).2.2 x19_3 p786 q786
                             obtain rfl : ad782 = ad786 := (by injection e786)
                             obtain ⟨ce786, hce786, hMe786, hcc786⟩ := Kd.S_get HO_9.out [] x19_3 p786 (by first | exact q786 | exact of_decide_eq_true (by first | (with_reducible assumption) | assumption) | (have e_ := (Kd.S_reads' HO_9.out).1; omega))
                             obtain ⟨ve786_0, rfl, ge786_0⟩ := hMe786
                             have hv786_0 := hcc786 0 _ rfl
                             rw [Nat.add_zero, show ((Kd.slice 3 (Kd.int .i64))).sz = 1 from rfl, Nat.mul_one] at hv786_0
                             replace hv786_0 := Option.some.inj (hv786_0.symm.trans hx786_0)
                             rw [hv786_0] at ge786_0
                             have HL786_0 := Aside0.mk (show Kd.R (Kd.int .i64) 3 _ _ _ _ (rd_L3 t766 x19_3) from ge786_0)
                             clear hv786_0 ge786_0
                             clear hcc786 hce786
                             have HR786_0 := Aside0.mk hi786_0
                             have HC786_0 := Aside0.mk hl786_0
                             clear hi786_0 hl786_0
                             replace p786 := eq_true p786
                             replace q786 := eq_true q786
                             have ea_ := Option.some.inj (hx782_0.symm.trans hx786_0)
                             injection ea_ with ea_ en_ ec_
                             subst ea_
                             subst ec_
                             clear en_
                             have p787 : 0 ≤ ((ji41) : Int) := of_decide_eq_true (by first | (with_reducible assumption) | assumption)
                             have q787 : (ji41) < ((rd_L3 t766 x19_3).length : Int) := of_decide_eq_true (by first | (with_reducible assumption) | assumption)
                             obtain ⟨ad787, e787, hx787_0⟩ := Kd.at_int (by repeat (first | (with_reducible exact HR786_0.out) | (with_reducible refine Kd.C_alloc ?_ _) | (with_reducible refine Kd.C_drewN ?_ _) | (with_reducible refine Kd.C_drew ?_) | exact HR786_0.out)) (ji41) p787 q787
                             cases e787
                             replace p787 := eq_true p787
                             replace q787 := eq_true q787
                             go_wp2
                             repeat (go_quiet (fail); try go_wp2)
                             go_ret
                             exact ⟨by first | rfl | (simp [errW_none, errW_some] <;> rfl) | (simp only [← hji37, ← hji41, ← hji45]; first | rfl | (simp [errW_none, errW_some] <;> rfl)) | (simp [*, errW_none, errW_some] <;> rfl), by repeat (first | (with_reducible first | exact HB.out | apply below_alloc | apply pw_below_drewN | apply below_drew1) | exact HB.out)⟩
                            ·rw [if_neg c49] at H
                             have c49b0 : decide ((t763.length : Int) ≤ x19_3) = false := decide_eq_false c49
                             clear c49
                             by_cases c51 : x19_3 < (t763.length : Int)
                             ·rw [if_pos c51] at H
                              have c51b0 : decide (x19_3 < (t763.length : Int)) = true := decide_eq_true c51
                              clear c51
                              by_cases c52 : (rd t763 x19_3) = (rd (rd_L3 t766 x19_3) x20_4)
                              ·rw [if_pos c52] at H
                               have c52b0 : ((rd t763 x19_3) == (rd (rd_L3 t766 x19_3) x20_4)) = true := beq_iff_eq.mpr c52
                               have c52b1 : ((rd t763 x19_3) != (rd (rd_L3 t766 x19_3) x20_4)) = false := bne_eq_false_iff_eq.mpr c52
                               clear c52
                               have c53b0 := eq_true (of_decide_eq_true (by first | (with_reducible assumption) | assumption) : 0 ≤ (rd (rd_L3 t766 x19_3) x20_4))
                               obtain ⟨ji54, hji54⟩ : ∃ j_ : Int, (shl .i64 1 (rd (rd_L3 t766 x19_3) x20_4)) = j_ := ⟨_, rfl⟩
                               replace H : (numnahlaw06_WettingChained.l2 k4 t759 t763 t766 t776 x15_2 (Go.bits .or .i64 x17_4 (ji54)) (wrap64 (x18_4 + 1)) x19_3 (wrap64 (x20_4 + 1))) = some r := by first | (rw [hji54] at H; exact H) | (simp only [hji54] at H ⊢; exact H)
                               have hji54_ : (IntKind.i64.wrap (1 * 2 ^ min (rd (rd_L3 t766 x19_3) x20_4).toNat 64)) = ji54 := hji54
                               have hji54z : (rd (rd_L3 t766 x19_3) x20_4) ≤ 64 → (IntKind.i64.wrap (1 * 2 ^ (rd (rd_L3 t766 x19_3) x20_4).toNat)) = ji54 := shl_small hji54
                               have hji54u : (IntKind.i64.wrap (2 ^ min (rd (rd_L3 t766 x19_3) x20_4).toNat 64)) = ji54 := by have h_ := hji54_; rw [Int.one_mul] at h_; exact h_
                               have hji54v : (rd (rd_L3 t766 x19_3) x20_4) ≤ 64 → (IntKind.i64.wrap (2 ^ (rd (rd_L3 t766 x19_3) x20_4).toNat)) = ji54 := fun hle_ => by have h_ := hji54z hle_; rw [Int.one_mul] at h_; exact h_
                               have hji54y : (wrap64 (1 * 2 ^ min (rd (rd_L3 t766 x19_3) x20_4).toNat 64)) = ji54 := (i64_w _).symm.trans hji54_
                               have hji54x : (rd (rd_L3 t766 x19_3) x20_4) ≤ 64 → (wrap64 (1 * 2 ^ (rd (rd_L3 t766 x19_3) x20_4).toNat)) = ji54 := fun h_ => (i64_w _).symm.trans (hji54z h_)
                               have H' := Aside0.mk H
                               clear H
                               have p782 : 0 ≤ (x19_3 : Int) := of_decide_eq_true (by first | (with_reducible assumption) | assumption)
                               have q782 : x19_3 < (t766.length : Int) := of_decide_eq_true (by first | (with_reducible assumption) | assumption)
                               obtain ⟨ad782, A782_0, c782_0, e782, hx782_0, hl782_0, hi782_0⟩ := at_L3 (Kd.S_reads' HO_9.out).2.2 x19_3 p782 q782
                               cases e782
                               obtain ⟨ce782, hce782, hMe782, hcc782⟩ := Kd.S_get HO_9.out [] x19_3 p782 (by first | exact q782 | exact of_decide_eq_true (by first | (with_reducible assumption) | assumption) | (have e_ := (Kd.S_reads' HO_9.out).1; omega))
                               obtain ⟨ve782_0, rfl, ge782_0⟩ := hMe782
                               have hv782_0 := hcc782 0 _ rfl
                               rw [Nat.add_zero, show ((Kd.slice 3 (Kd.int .i64))).sz = 1 from rfl, Nat.mul_one] at hv782_0
                               replace hv782_0 := Option.some.inj (hv782_0.symm.trans hx782_0)
                               rw [hv782_0] at ge782_0
                               have HL782_0 := Aside0.mk (show Kd.R (Kd.int .i64) 3 _ _ _ _ (rd_L3 t766 x19_3) from ge782_0)
                               clear hv782_0 ge782_0
                               clear hcc782 hce782
                               have HR782_0 := Aside0.mk hi782_0
                               have HC782_0 := Aside0.mk hl782_0
                               clear hi782_0 hl782_0
                               replace p782 := eq_true p782
                               replace q782 := eq_true q782
                               have p783 : 0 ≤ (x19_3 : Int) := of_decide_eq_true (by first | (with_reducible assumption) | assumption)
                               have q783 : x19_3 < (t766.length : Int) := of_decide_eq_true (by first | (with_reducible assumption) | assumption)
                               obtain ⟨ad783, A783_0, c783_0, e783, hx783_0, hl783_0, hi783_0⟩ := at_L3 (Kd.S_reads' HO_9.out).2.2 x19_3 p783 q783
                               obtain rfl : ad782 = ad783 := (by injection e783)
                               obtain ⟨ce783, hce783, hMe783, hcc783⟩ := Kd.S_get HO_9.out [] x19_3 p783 (by first | exact q783 | exact of_decide_eq_true (by first | (with_reducible assumption) | assumption) | (have e_ := (Kd.S_reads' HO_9.out).1; omega))
                               obtain ⟨ve783_0, rfl, ge783_0⟩ := hMe783
                               have hv783_0 := hcc783 0 _ rfl
                               rw [Nat.add_zero, show ((Kd.slice 3 (Kd.int .i64))).sz = 1 from rfl, Nat.mul_one] at hv783_0
                               replace hv783_0 := Option.some.inj (hv783_0.symm.trans hx783_0)
                               rw [hv783_0] at ge783_0
                               have HL783_0 := Aside0.mk (show Kd.R (Kd.int .i64) 3 _ _ _ _ (rd_L3 t766 x19_3) from ge783_0)
                               clear hv783_0 ge783_0
                               clear hcc783 hce783
                               have HR783_0 := Aside0.mk hi783_0
                               have HC783_0 := Aside0.mk hl783_0
                               clear hi783_0 hl783_0
                               replace p783 := eq_true p783
                               replace q783 := eq_true q783
                               have ea_ := Option.some.inj (hx782_0.symm.trans hx783_0)
                               injection ea_ with ea_ en_ ec_
                               subst ea_
                               subst ec_
                               clear en_
                               have p784 : 0 ≤ (x20_4 : Int) := of_decide_eq_true (by first | (with_reducible assumption) | assumption)
                               have q784 : x20_4 < ((rd_L3 t766 x19_3).length : Int) := of_decide_eq_true (by first | (with_reducible assumption) | assumption)
                               obtain ⟨ad784, e784, hx784_0⟩ := Kd.at_int (by repeat (first | (with_reducible exact HR783_0.out) | (with_reducible refine Kd.C_alloc ?_ _) | (with_reducible refine Kd.C_drewN ?_ _) | (with_reducible refine Kd.C_drew ?_) | exact HR783_0.out)) x20_4 p784 q784
                               cases e784
                               replace p784 := eq_true p784
                               replace q784 := eq_true q784
                               obtain ⟨Ao55, co55, eo55⟩ := Kd.R_slice HO_14.out
                               subst eo55
                               have p785 : 0 ≤ ((rd (rd_L3 t766 x19_3) x20_4) : Int) := of_decide_eq_true (by first | (with_reducible assumption) | assumption)
                               have q785 : (rd (rd_L3 t766 x19_3) x20_4) < (t776.length : Int) := of_decide_eq_true (by first | (with_reducible assumption) | assumption)
                               obtain ⟨ad785, e785, hx785_0⟩ := Kd.at_int (Kd.R_reads' HO_14.out).2.2 (rd (rd_L3 t766 x19_3) x20_4) p785 q785
                               cases e785
                               replace p785 := eq_true p785
                               replace q785 := eq_true q785
                               have p786 : 0 ≤ (x19_3 : Int) := of_decide_eq_true (by first | (with_reducible assumption) | assumption)
                               have q786 : x19_3 < (t766.length : Int) := of_decide_eq_true (by first | (with_reducible assumption) | assumption)
                               obtain ⟨ad786, A786_0, c786_0, e786, hx786_0, hl786_0, hi786_0⟩ := at_L3 (Kd.S_reads' HO_9.out).2.2 x19_3 p786 q786
                               obtain rfl : ad782 = ad786 := (by injection e786)
                               obtain ⟨ce786, hce786, hMe786, hcc786⟩ := Kd.S_get HO_9.out [] x19_3 p786 (by first | exact q786 | exact of_decide_eq_true (by first | (with_reducible assumption) | assumption) | (have e_ := (Kd.S_reads' HO_9.out).1; omega))
                               obtain ⟨ve786_0, rfl, ge786_0⟩ := hMe786
                               have hv786_0 := hcc786 0 _ rfl
                               rw [Nat.add_zero, show ((Kd.slice 3 (Kd.int .i64))).sz = 1 from rfl, Nat.mul_one] at hv786_0
                               replace hv786_0 := Option.some.inj (hv786_0.symm.trans hx786_0)
                               rw [hv786_0] at ge786_0
                               have HL786_0 := Aside0.mk (show Kd.R (Kd.int .i64) 3 _ _ _ _ (rd_L3 t766 x19_3) from ge786_0)
                               clear hv786_0 ge786_0
                               clear hcc786 hce786
                               have HR786_0 := Aside0.mk hi786_0
                               have HC786_0 := Aside0.mk hl786_0
                               clear hi786_0 hl786_0
                               replace p786 := eq_true p786
                               replace q786 := eq_true q786
                               have ea_ := Option.some.inj (hx782_0.symm.trans hx786_0)
                               injection ea_ with ea_ en_ ec_
                               subst ea_
                               subst ec_
                               clear en_
                               have p787 : 0 ≤ ((ji41) : Int) := of_decide_eq_true (by first | (with_reducible assumption) | assumption)
                               have q787 : (ji41) < ((rd_L3 t766 x19_3).length : Int) := of_decide_eq_true (by first | (with_reducible assumption) | assumption)
                               obtain ⟨ad787, e787, hx787_0⟩ := Kd.at_int (by repeat (first | (with_reducible exact HR786_0.out) | (with_reducible refine Kd.C_alloc ?_ _) | (with_reducible refine Kd.C_drewN ?_ _) | (with_reducible refine Kd.C_drew ?_) | exact HR786_0.out)) (ji41) p787 q787
                               cases e787
                               replace p787 := eq_true p787
                               replace q787 := eq_true q787
                               have p788 : 0 ≤ (x19_3 : Int) := of_decide_eq_true (by first | (with_reducible assumption) | assumption)
                               have q788 : x19_3 < (t763.length : Int) := of_decide_eq_true (by first | (with_reducible assumption) | assumption)
                               obtain ⟨ad788, e788, hx788_0⟩ := Kd.at_int (Kd.R_reads' HO_8.out).2.2 x19_3 p788 q788
                               cases e788
                               replace p788 := eq_true p788
                               replace q788 := eq_true q788
                               go_wp2
                               repeat (go_quiet (fail); try go_wp2)
                               go_roundg k4
                               case measure => have := HJ7.out; have := HK2.out; have := HK3.out; have := HK4.out; omega
                               case rel => exact ⟨(Go.bits .or .i64 x17_4 (ji54)), (wrap64 (x18_4 + 1)), (wrap64 (x20_4 + 1)), (by first | rfl | (simp; done) | (simp only [← hji54] <;> (first | rfl | simp)) | (simp [*]; done)), (by first | rfl | (simp; done) | (simp [*]; done)), (by first | rfl | (simp; done) | (simp [*]; done)), H', ⟨by have := HJ7.out; have := HK2.out; have := HK3.out; have := HK4.out; omega⟩, ⟨by (with_reducible repeat (first | apply Kd.R_alloc | apply Kd.R_drewN | apply Kd.R_drew)); exact HO_8.out⟩, ⟨by (with_reducible repeat (first | apply Kd.S_alloc | apply Kd.S_drewN | apply Kd.S_drew)); exact HO_9.out⟩, ⟨by (with_reducible repeat (first | apply Kd.R_alloc | apply Kd.R_drewN | apply Kd.R_drew)); exact HO_14.out⟩, ⟨by repeat (first | (with_reducible first | exact HB.out | apply below_alloc | apply pw_below_drewN | apply below_drew1) | exact HB.out)⟩⟩
                              ·rw [if_neg c52] at H
                               have c52b0 : ((rd t763 x19_3) == (rd (rd_L3 t766 x19_3) x20_4)) = false := beq_eq_false_iff_ne.mpr c52
                               have c52b1 : ((rd t763 x19_3) != (rd (rd_L3 t766 x19_3) x20_4)) = true := bne_iff_ne.mpr c52
                               obtain rfl := Option.some.inj H
                               have p782 : 0 ≤ (x19_3 : Int) := of_decide_eq_true (by first | (with_reducible assumption) | assumption)
                               have q782 : x19_3 < (t766.length : Int) := of_decide_eq_true (by first | (with_reducible assumption) | assumption)
                               obtain ⟨ad782, A782_0, c782_0, e782, hx782_0, hl782_0, hi782_0⟩ := at_L3 (Kd.S_reads' HO_9.out).2.2 x19_3 p782 q782
                               cases e782
                               obtain ⟨ce782, hce782, hMe782, hcc782⟩ := Kd.S_get HO_9.out [] x19_3 p782 (by first | exact q782 | exact of_decide_eq_true (by first | (with_reducible assumption) | assumption) | (have e_ := (Kd.S_reads' HO_9.out).1; omega))
                               obtain ⟨ve782_0, rfl, ge782_0⟩ := hMe782
                               have hv782_0 := hcc782 0 _ rfl
                               rw [Nat.add_zero, show ((Kd.slice 3 (Kd.int .i64))).sz = 1 from rfl, Nat.mul_one] at hv782_0
                               replace hv782_0 := Option.some.inj (hv782_0.symm.trans hx782_0)
                               rw [hv782_0] at ge782_0
                               have HL782_0 := Aside0.mk (show Kd.R (Kd.int .i64) 3 _ _ _ _ (rd_L3 t766 x19_3) from ge782_0)
                               clear hv782_0 ge782_0
                               clear hcc782 hce782
                               have HR782_0 := Aside0.mk hi782_0
                               have HC782_0 := Aside0.mk hl782_0
                               clear hi782_0 hl782_0
                               replace p782 := eq_true p782
                               replace q782 := eq_true q782
                               have p783 : 0 ≤ (x19_3 : Int) := of_decide_eq_true (by first | (with_reducible assumption) | assumption)
                               have q783 : x19_3 < (t766.length : Int) := of_decide_eq_true (by first | (with_reducible assumption) | assumption)
                               obtain ⟨ad783, A783_0, c783_0, e783, hx783_0, hl783_0, hi783_0⟩ := at_L3 (Kd.S_reads' HO_9.out).2.2 x19_3 p783 q783
                               obtain rfl : ad782 = ad783 := (by injection e783)
                               obtain ⟨ce783, hce783, hMe783, hcc783⟩ := Kd.S_get HO_9.out [] x19_3 p783 (by first | exact q783 | exact of_decide_eq_true (by first | (with_reducible assumption) | assumption) | (have e_ := (Kd.S_reads' HO_9.out).1; omega))
                               obtain ⟨ve783_0, rfl, ge783_0⟩ := hMe783
                               have hv783_0 := hcc783 0 _ rfl
                               rw [Nat.add_zero, show ((Kd.slice 3 (Kd.int .i64))).sz = 1 from rfl, Nat.mul_one] at hv783_0
                               replace hv783_0 := Option.some.inj (hv783_0.symm.trans hx783_0)
                               rw [hv783_0] at ge783_0
                               have HL783_0 := Aside0.mk (show Kd.R (Kd.int .i64) 3 _ _ _ _ (rd_L3 t766 x19_3) from ge783_0)
                               clear hv783_0 ge783_0
                               clear hcc783 hce783
                               have HR783_0 := Aside0.mk hi783_0
                               have HC783_0 := Aside0.mk hl783_0
                               clear hi783_0 hl783_0
                               replace p783 := eq_true p783
                               replace q783 := eq_true q783
                               have ea_ := Option.some.inj (hx782_0.symm.trans hx783_0)
                               injection ea_ with ea_ en_ ec_
                               subst ea_
                               subst ec_
                               clear en_
                               have p784 : 0 ≤ (x20_4 : Int) := of_decide_eq_true (by first | (with_reducible assumption) | assumption)
                               have q784 : x20_4 < ((rd_L3 t766 x19_3).length : Int) := of_decide_eq_true (by first | (with_reducible assumption) | assumption)
                               obtain ⟨ad784, e784, hx784_0⟩ := Kd.at_int (by repeat (first | (with_reducible exact HR783_0.out) | (with_reducible refine Kd.C_alloc ?_ _) | (with_reducible refine Kd.C_drewN ?_ _) | (with_reducible refine Kd.C_drew ?_) | exact HR783_0.out)) x20_4 p784 q784
                               cases e784
                               replace p784 := eq_true p784
                               replace q784 := eq_true q784
                               obtain ⟨Ao56, co56, eo56⟩ := Kd.R_slice HO_14.out
                               subst eo56
                               have p785 : 0 ≤ ((rd (rd_L3 t766 x19_3) x20_4) : Int) := of_decide_eq_true (by first | (with_reducible assumption) | assumption)
                               have q785 : (rd (rd_L3 t766 x19_3) x20_4) < (t776.length : Int) := of_decide_eq_true (by first | (with_reducible assumption) | assumption)
                               obtain ⟨ad785, e785, hx785_0⟩ := Kd.at_int (Kd.R_reads' HO_14.out).2.2 (rd (rd_L3 t766 x19_3) x20_4) p785 q785
                               cases e785
                               replace p785 := eq_true p785
                               replace q785 := eq_true q785
                               have p786 : 0 ≤ (x19_3 : Int) := of_decide_eq_true (by first | (with_reducible assumption) | assumption)
                               have q786 : x19_3 < (t766.length : Int) := of_decide_eq_true (by first | (with_reducible assumption) | assumption)
                               obtain ⟨ad786, A786_0, c786_0, e786, hx786_0, hl786_0, hi786_0⟩ := at_L3 (Kd.S_reads' HO_9.out).2.2 x19_3 p786 q786
                               obtain rfl : ad782 = ad786 := (by injection e786)
                               obtain ⟨ce786, hce786, hMe786, hcc786⟩ := Kd.S_get HO_9.out [] x19_3 p786 (by first | exact q786 | exact of_decide_eq_true (by first | (with_reducible assumption) | assumption) | (have e_ := (Kd.S_reads' HO_9.out).1; omega))
                               obtain ⟨ve786_0, rfl, ge786_0⟩ := hMe786
                               have hv786_0 := hcc786 0 _ rfl
                               rw [Nat.add_zero, show ((Kd.slice 3 (Kd.int .i64))).sz = 1 from rfl, Nat.mul_one] at hv786_0
                               replace hv786_0 := Option.some.inj (hv786_0.symm.trans hx786_0)
                               rw [hv786_0] at ge786_0
                               have HL786_0 := Aside0.mk (show Kd.R (Kd.int .i64) 3 _ _ _ _ (rd_L3 t766 x19_3) from ge786_0)
                               clear hv786_0 ge786_0
                               clear hcc786 hce786
                               have HR786_0 := Aside0.mk hi786_0
                               have HC786_0 := Aside0.mk hl786_0
                               clear hi786_0 hl786_0
                               replace p786 := eq_true p786
                               replace q786 := eq_true q786
                               have ea_ := Option.some.inj (hx782_0.symm.trans hx786_0)
                               injection ea_ with ea_ en_ ec_
                               subst ea_
                               subst ec_
                               clear en_
                               have p787 : 0 ≤ ((ji41) : Int) := of_decide_eq_true (by first | (with_reducible assumption) | assumption)
                               have q787 : (ji41) < ((rd_L3 t766 x19_3).length : Int) := of_decide_eq_true (by first | (with_reducible assumption) | assumption)
                               obtain ⟨ad787, e787, hx787_0⟩ := Kd.at_int (by repeat (first | (with_reducible exact HR786_0.out) | (with_reducible refine Kd.C_alloc ?_ _) | (with_reducible refine Kd.C_drewN ?_ _) | (with_reducible refine Kd.C_drew ?_) | exact HR786_0.out)) (ji41) p787 q787
                               cases e787
                               replace p787 := eq_true p787
                               replace q787 := eq_true q787
                               have p788 : 0 ≤ (x19_3 : Int) := of_decide_eq_true (by first | (with_reducible assumption) | assumption)
                               have q788 : x19_3 < (t763.length : Int) := of_decide_eq_true (by first | (with_reducible assumption) | assumption)
                               obtain ⟨ad788, e788, hx788_0⟩ := Kd.at_int (Kd.R_reads' HO_8.out).2.2 x19_3 p788 q788
                               cases e788
                               replace p788 := eq_true p788
                               replace q788 := eq_true q788
                               go_wp2
                               repeat (go_quiet (fail); try go_wp2)
                               go_ret
                               exact ⟨by first | rfl | (simp [errW_none, errW_some] <;> rfl) | (simp only [← hji37, ← hji41, ← hji45]; first | rfl | (simp [errW_none, errW_some] <;> rfl)) | (simp [*, errW_none, errW_some] <;> rfl), by repeat (first | (with_reducible first | exact HB.out | apply below_alloc | apply pw_below_drewN | apply below_drew1) | exact HB.out)⟩
                             ·rw [if_neg c51] at H
                              exact absurd H (by simp)
                           ·rw [if_neg c48] at H
                            have c48b0 : (x20_4 == 0) = false := beq_eq_false_iff_ne.mpr c48
                            have c48b1 : (x20_4 != 0) = true := bne_iff_ne.mpr c48
                            have c57b0 := eq_true (of_decide_eq_true (by first | (with_reducible assumption) | assumption) : 0 ≤ (rd (rd_L3 t766 x19_3) x20_4))
                            obtain ⟨ji58, hji58⟩ : ∃ j_ : Int, (shl .i64 1 (rd (rd_L3 t766 x19_3) x20_4)) = j_ := ⟨_, rfl⟩
                            replace H : (numnahlaw06_WettingChained.l2 k4 t759 t763 t766 t776 x15_2 (Go.bits .or .i64 x17_4 (ji58)) (wrap64 (x18_4 + 1)) x19_3 (wrap64 (x20_4 + 1))) = some r := by first | (rw [hji58] at H; exact H) | (simp only [hji58] at H ⊢; exact H)
                            have hji58_ : (IntKind.i64.wrap (1 * 2 ^ min (rd (rd_L3 t766 x19_3) x20_4).toNat 64)) = ji58 := hji58
                            have hji58z : (rd (rd_L3 t766 x19_3) x20_4) ≤ 64 → (IntKind.i64.wrap (1 * 2 ^ (rd (rd_L3 t766 x19_3) x20_4).toNat)) = ji58 := shl_small hji58
                            have hji58u : (IntKind.i64.wrap (2 ^ min (rd (rd_L3 t766 x19_3) x20_4).toNat 64)) = ji58 := by have h_ := hji58_; rw [Int.one_mul] at h_; exact h_
                            have hji58v : (rd (rd_L3 t766 x19_3) x20_4) ≤ 64 → (IntKind.i64.wrap (2 ^ (rd (rd_L3 t766 x19_3) x20_4).toNat)) = ji58 := fun hle_ => by have h_ := hji58z hle_; rw [Int.one_mul] at h_; exact h_
                            have hji58y : (wrap64 (1 * 2 ^ min (rd (rd_L3 t766 x19_3) x20_4).toNat 64)) = ji58 := (i64_w _).symm.trans hji58_
                            have hji58x : (rd (rd_L3 t766 x19_3) x20_4) ≤ 64 → (wrap64 (1 * 2 ^ (rd (rd_L3 t766 x19_3) x20_4).toNat)) = ji58 := fun h_ => (i64_w _).symm.trans (hji58z h_)
                            have H' := Aside0.mk H
                            clear H
                            have p782 : 0 ≤ (x19_3 : Int) := of_decide_eq_true (by first | (with_reducible assumption) | assumption)
                            have q782 : x19_3 < (t766.length : Int) := of_decide_eq_true (by first | (with_reducible assumption) | assumption)
                            obtain ⟨ad782, A782_0, c782_0, e782, hx782_0, hl782_0, hi782_0⟩ := at_L3 (Kd.S_reads' HO_9.out).2.2 x19_3 p782 q782
                            cases e782
                            obtain ⟨ce782, hce782, hMe782, hcc782⟩ := Kd.S_get HO_9.out [] x19_3 p782 (by first | exact q782 | exact of_decide_eq_true (by first | (with_reducible assumption) | assumption) | (have e_ := (Kd.S_reads' HO_9.out).1; omega))
                            obtain ⟨ve782_0, rfl, ge782_0⟩ := hMe782
                            have hv782_0 := hcc782 0 _ rfl
                            rw [Nat.add_zero, show ((Kd.slice 3 (Kd.int .i64))).sz = 1 from rfl, Nat.mul_one] at hv782_0
                            replace hv782_0 := Option.some.inj (hv782_0.symm.trans hx782_0)
                            rw [hv782_0] at ge782_0
                            have HL782_0 := Aside0.mk (show Kd.R (Kd.int .i64) 3 _ _ _ _ (rd_L3 t766 x19_3) from ge782_0)
                            clear hv782_0 ge782_0
                            clear hcc782 hce782
                            have HR782_0 := Aside0.mk hi782_0
                            have HC782_0 := Aside0.mk hl782_0
                            clear hi782_0 hl782_0
                            replace p782 := eq_true p782
                            replace q782 := eq_true q782
                            have p783 : 0 ≤ (x19_3 : Int) := of_decide_eq_true (by first | (with_reducible assumption) | assumption)
                            have q783 : x19_3 < (t766.length : Int) := of_decide_eq_true (by first | (with_reducible assumption) | assumption)
                            obtain ⟨ad783, A783_0, c783_0, e783, hx783_0, hl783_0, hi783_0⟩ := at_L3 (Kd.S_reads' HO_9.out).2.2 x19_3 p783 q783
                            obtain rfl : ad782 = ad783 := (by injection e783)
                            obtain ⟨ce783, hce783, hMe783, hcc783⟩ := Kd.S_get HO_9.out [] x19_3 p783 (by first | exact q783 | exact of_decide_eq_true (by first | (with_reducible assumption) | assumption) | (have e_ := (Kd.S_reads' HO_9.out).1; omega))
                            obtain ⟨ve783_0, rfl, ge783_0⟩ := hMe783
                            have hv783_0 := hcc783 0 _ rfl
                            rw [Nat.add_zero, show ((Kd.slice 3 (Kd.int .i64))).sz = 1 from rfl, Nat.mul_one] at hv783_0
                            replace hv783_0 := Option.some.inj (hv783_0.symm.trans hx783_0)
                            rw [hv783_0] at ge783_0
                            have HL783_0 := Aside0.mk (show Kd.R (Kd.int .i64) 3 _ _ _ _ (rd_L3 t766 x19_3) from ge783_0)
                            clear hv783_0 ge783_0
                            clear hcc783 hce783
                            have HR783_0 := Aside0.mk hi783_0
                            have HC783_0 := Aside0.mk hl783_0
                            clear hi783_0 hl783_0
                            replace p783 := eq_true p783
                            replace q783 := eq_true q783
                            have ea_ := Option.some.inj (hx782_0.symm.trans hx783_0)
                            injection ea_ with ea_ en_ ec_
                            subst ea_
                            subst ec_
                            clear en_
                            have p784 : 0 ≤ (x20_4 : Int) := of_decide_eq_true (by first | (with_reducible assumption) | assumption)
                            have q784 : x20_4 < ((rd_L3 t766 x19_3).length : Int) := of_decide_eq_true (by first | (with_reducible assumption) | assumption)
                            obtain ⟨ad784, e784, hx784_0⟩ := Kd.at_int (by repeat (first | (with_reducible exact HR783_0.out) | (with_reducible refine Kd.C_alloc ?_ _) | (with_reducible refine Kd.C_drewN ?_ _) | (with_reducible refine Kd.C_drew ?_) | exact HR783_0.out)) x20_4 p784 q784
                            cases e784
                            replace p784 := eq_true p784
                            replace q784 := eq_true q784
                            obtain ⟨Ao59, co59, eo59⟩ := Kd.R_slice HO_14.out
                            subst eo59
                            have p785 : 0 ≤ ((rd (rd_L3 t766 x19_3) x20_4) : Int) := of_decide_eq_true (by first | (with_reducible assumption) | assumption)
                            have q785 : (rd (rd_L3 t766 x19_3) x20_4) < (t776.length : Int) := of_decide_eq_true (by first | (with_reducible assumption) | assumption)
                            obtain ⟨ad785, e785, hx785_0⟩ := Kd.at_int (Kd.R_reads' HO_14.out).2.2 (rd (rd_L3 t766 x19_3) x20_4) p785 q785
                            cases e785
                            replace p785 := eq_true p785
                            replace q785 := eq_true q785
                            have p786 : 0 ≤ (x19_3 : Int) := of_decide_eq_true (by first | (with_reducible assumption) | assumption)
                            have q786 : x19_3 < (t766.length : Int) := of_decide_eq_true (by first | (with_reducible assumption) | assumption)
                            obtain ⟨ad786, A786_0, c786_0, e786, hx786_0, hl786_0, hi786_0⟩ := at_L3 (Kd.S_reads' HO_9.out).2.2 x19_3 p786 q786
                            obtain rfl : ad782 = ad786 := (by injection e786)
                            obtain ⟨ce786, hce786, hMe786, hcc786⟩ := Kd.S_get HO_9.out [] x19_3 p786 (by first | exact q786 | exact of_decide_eq_true (by first | (with_reducible assumption) | assumption) | (have e_ := (Kd.S_reads' HO_9.out).1; omega))
                            obtain ⟨ve786_0, rfl, ge786_0⟩ := hMe786
                            have hv786_0 := hcc786 0 _ rfl
                            rw [Nat.add_zero, show ((Kd.slice 3 (Kd.int .i64))).sz = 1 from rfl, Nat.mul_one] at hv786_0
                            replace hv786_0 := Option.some.inj (hv786_0.symm.trans hx786_0)
                            rw [hv786_0] at ge786_0
                            have HL786_0 := Aside0.mk (show Kd.R (Kd.int .i64) 3 _ _ _ _ (rd_L3 t766 x19_3) from ge786_0)
                            clear hv786_0 ge786_0
                            clear hcc786 hce786
                            have HR786_0 := Aside0.mk hi786_0
                            have HC786_0 := Aside0.mk hl786_0
                            clear hi786_0 hl786_0
                            replace p786 := eq_true p786
                            replace q786 := eq_true q786
                            have ea_ := Option.some.inj (hx782_0.symm.trans hx786_0)
                            injection ea_ with ea_ en_ ec_
                            subst ea_
                            subst ec_
                            clear en_
                            have p787 : 0 ≤ ((ji41) : Int) := of_decide_eq_true (by first | (with_reducible assumption) | assumption)
                            have q787 : (ji41) < ((rd_L3 t766 x19_3).length : Int) := of_decide_eq_true (by first | (with_reducible assumption) | assumption)
                            obtain ⟨ad787, e787, hx787_0⟩ := Kd.at_int (by repeat (first | (with_reducible exact HR786_0.out) | (with_reducible refine Kd.C_alloc ?_ _) | (with_reducible refine Kd.C_drewN ?_ _) | (with_reducible refine Kd.C_drew ?_) | exact HR786_0.out)) (ji41) p787 q787
                            cases e787
                            replace p787 := eq_true p787
                            replace q787 := eq_true q787
                            go_wp2
                            repeat (go_quiet (fail); try go_wp2)
                            go_roundg k4
                            case measure => have := HJ7.out; have := HK2.out; have := HK3.out; have := HK4.out; omega
                            case rel => exact ⟨(Go.bits .or .i64 x17_4 (ji58)), (wrap64 (x18_4 + 1)), (wrap64 (x20_4 + 1)), (by first | rfl | (simp; done) | (simp only [← hji58] <;> (first | rfl | simp)) | (simp [*]; done)), (by first | rfl | (simp; done) | (simp [*]; done)), (by first | rfl | (simp; done) | (simp [*]; done)), H', ⟨by have := HJ7.out; have := HK2.out; have := HK3.out; have := HK4.out; omega⟩, ⟨by (with_reducible repeat (first | apply Kd.R_alloc | apply Kd.R_drewN | apply Kd.R_drew)); exact HO_8.out⟩, ⟨by (with_reducible repeat (first | apply Kd.S_alloc | apply Kd.S_drewN | apply Kd.S_drew)); exact HO_9.out⟩, ⟨by (with_reducible repeat (first | apply Kd.R_alloc | apply Kd.R_drewN | apply Kd.R_drew)); exact HO_14.out⟩, ⟨by repeat (first | (with_reducible first | exact HB.out | apply below_alloc | apply pw_below_drewN | apply below_drew1) | exact HB.out)⟩⟩
                         ·rw [if_neg c44] at H
                          exact absurd H (by simp)
                        ·rw [if_neg c43] at H
                         exact absurd H (by simp)
                       ·rw [if_neg c42] at H
                        exact absurd H (by simp)
                      ·rw [if_neg c40] at H
                       exact absurd H (by simp)
                     ·rw [if_neg c39] at H
                      have c39b0 : decide (0 < x20_4) = false := decide_eq_false c39
                      clear c39
                      by_cases c60 : x20_4 = 0
                      ·rw [if_pos c60] at H
                       have c60b0 : (x20_4 == 0) = true := beq_iff_eq.mpr c60
                       have c60b1 : (x20_4 != 0) = false := bne_eq_false_iff_eq.mpr c60
                       clear c60
                       by_cases c61 : x19_3 ≥ (t763.length : Int)
                       ·rw [if_pos c61] at H
                        have c61b0 : decide ((t763.length : Int) ≤ x19_3) = true := decide_eq_true c61
                        clear c61
                        obtain rfl := Option.some.inj H
                        have p782 : 0 ≤ (x19_3 : Int) := of_decide_eq_true (by first | (with_reducible assumption) | assumption)
                        have q782 : x19_3 < (t766.length : Int) := of_decide_eq_true (by first | (with_reducible assumption) | assumption)
                        obtain ⟨ad782, A782_0, c782_0, e782, hx782_0, hl782_0, hi782_0⟩ := at_L3 (Kd.S_reads' HO_9.out).2.2 x19_3 p782 q782
                        cases e782
                        obtain ⟨ce782, hce782, hMe782, hcc782⟩ := Kd.S_get HO_9.out [] x19_3 p782 (by first | exact q782 | exact of_decide_eq_true (by first | (with_reducible assumption) | assumption) | (have e_ := (Kd.S_reads' HO_9.out).1; omega))
                        obtain ⟨ve782_0, rfl, ge782_0⟩ := hMe782
                        have hv782_0 := hcc782 0 _ rfl
                        rw [Nat.add_zero, show ((Kd.slice 3 (Kd.int .i64))).sz = 1 from rfl, Nat.mul_one] at hv782_0
                        replace hv782_0 := Option.some.inj (hv782_0.symm.trans hx782_0)
                        rw [hv782_0] at ge782_0
                        have HL782_0 := Aside0.mk (show Kd.R (Kd.int .i64) 3 _ _ _ _ (rd_L3 t766 x19_3) from ge782_0)
                        clear hv782_0 ge782_0
                        clear hcc782 hce782
                        have HR782_0 := Aside0.mk hi782_0
                        have HC782_0 := Aside0.mk hl782_0
                        clear hi782_0 hl782_0
                        replace p782 := eq_true p782
                        replace q782 := eq_true q782
                        have p783 : 0 ≤ (x19_3 : Int) := of_decide_eq_true (by first | (with_reducible assumption) | assumption)
                        have q783 : x19_3 < (t766.length : Int) := of_decide_eq_true (by first | (with_reducible assumption) | assumption)
                        obtain ⟨ad783, A783_0, c783_0, e783, hx783_0, hl783_0, hi783_0⟩ := at_L3 (Kd.S_reads' HO_9.out).2.2 x19_3 p783 q783
                        obtain rfl : ad782 = ad783 := (by injection e783)
                        obtain ⟨ce783, hce783, hMe783, hcc783⟩ := Kd.S_get HO_9.out [] x19_3 p783 (by first | exact q783 | exact of_decide_eq_true (by first | (with_reducible assumption) | assumption) | (have e_ := (Kd.S_reads' HO_9.out).1; omega))
                        obtain ⟨ve783_0, rfl, ge783_0⟩ := hMe783
                        have hv783_0 := hcc783 0 _ rfl
                        rw [Nat.add_zero, show ((Kd.slice 3 (Kd.int .i64))).sz = 1 from rfl, Nat.mul_one] at hv783_0
                        replace hv783_0 := Option.some.inj (hv783_0.symm.trans hx783_0)
                        rw [hv783_0] at ge783_0
                        have HL783_0 := Aside0.mk (show Kd.R (Kd.int .i64) 3 _ _ _ _ (rd_L3 t766 x19_3) from ge783_0)
                        clear hv783_0 ge783_0
                        clear hcc783 hce783
                        have HR783_0 := Aside0.mk hi783_0
                        have HC783_0 := Aside0.mk hl783_0
                        clear hi783_0 hl783_0
                        replace p783 := eq_true p783
                        replace q783 := eq_true q783
                        have ea_ := Option.some.inj (hx782_0.symm.trans hx783_0)
                        injection ea_ with ea_ en_ ec_
                        subst ea_
                        subst ec_
                        clear en_
                        have p784 : 0 ≤ (x20_4 : Int) := of_decide_eq_true (by first | (with_reducible assumption) | assumption)
                        have q784 : x20_4 < ((rd_L3 t766 x19_3).length : Int) := of_decide_eq_true (by first | (with_reducible assumption) | assumption)
                        obtain ⟨ad784, e784, hx784_0⟩ := Kd.at_int (by repeat (first | (with_reducible exact HR783_0.out) | (with_reducible refine Kd.C_alloc ?_ _) | (with_reducible refine Kd.C_drewN ?_ _) | (with_reducible refine Kd.C_drew ?_) | exact HR783_0.out)) x20_4 p784 q784
                        cases e784
                        replace p784 := eq_true p784
                        replace q784 := eq_true q784
                        go_wp2
                        repeat (go_quiet (fail); try go_wp2)
                        go_ret
                        exact ⟨by first | rfl | (simp [errW_none, errW_some] <;> rfl) | (simp only [← hji37]; first | rfl | (simp [errW_none, errW_some] <;> rfl)) | (simp [*, errW_none, errW_some] <;> rfl), by repeat (first | (with_reducible first | exact HB.out | apply below_alloc | apply pw_below_drewN | apply below_drew1) | exact HB.out)⟩
                       ·rw [if_neg c61] at H
                        have c61b0 : decide ((t763.length : Int) ≤ x19_3) = false := decide_eq_false c61
                        clear c61
                        by_cases c62 : x19_3 < (t763.length : Int)
                        ·rw [if_pos c62] at H
                         have c62b0 : decide (x19_3 < (t763.length : Int)) = true := decide_eq_true c62
                         clear c62
                         by_cases c63 : (rd t763 x19_3) = (rd (rd_L3 t766 x19_3) x20_4)
                         ·rw [if_pos c63] at H
                          have c63b0 : ((rd t763 x19_3) == (rd (rd_L3 t766 x19_3) x20_4)) = true := beq_iff_eq.mpr c63
                          have c63b1 : ((rd t763 x19_3) != (rd (rd_L3 t766 x19_3) x20_4)) = false := bne_eq_false_iff_eq.mpr c63
                          clear c63
                          have c64b0 := eq_true (of_decide_eq_true (by first | (with_reducible assumption) | assumption) : 0 ≤ (rd (rd_L3 t766 x19_3) x20_4))
                          obtain ⟨ji65, hji65⟩ : ∃ j_ : Int, (shl .i64 1 (rd (rd_L3 t766 x19_3) x20_4)) = j_ := ⟨_, rfl⟩
                          replace H : (numnahlaw06_WettingChained.l2 k4 t759 t763 t766 t776 x15_2 (Go.bits .or .i64 x17_4 (ji65)) (wrap64 (x18_4 + 1)) x19_3 (wrap64 (x20_4 + 1))) = some r := by first | (rw [hji65] at H; exact H) | (simp only [hji65] at H ⊢; exact H)
                          have hji65_ : (IntKind.i64.wrap (1 * 2 ^ min (rd (rd_L3 t766 x19_3) x20_4).toNat 64)) = ji65 := hji65
                          have hji65z : (rd (rd_L3 t766 x19_3) x20_4) ≤ 64 → (IntKind.i64.wrap (1 * 2 ^ (rd (rd_L3 t766 x19_3) x20_4).toNat)) = ji65 := shl_small hji65
                          have hji65u : (IntKind.i64.wrap (2 ^ min (rd (rd_L3 t766 x19_3) x20_4).toNat 64)) = ji65 := by have h_ := hji65_; rw [Int.one_mul] at h_; exact h_
                          have hji65v : (rd (rd_L3 t766 x19_3) x20_4) ≤ 64 → (IntKind.i64.wrap (2 ^ (rd (rd_L3 t766 x19_3) x20_4).toNat)) = ji65 := fun hle_ => by have h_ := hji65z hle_; rw [Int.one_mul] at h_; exact h_
                          have hji65y : (wrap64 (1 * 2 ^ min (rd (rd_L3 t766 x19_3) x20_4).toNat 64)) = ji65 := (i64_w _).symm.trans hji65_
                          have hji65x : (rd (rd_L3 t766 x19_3) x20_4) ≤ 64 → (wrap64 (1 * 2 ^ (rd (rd_L3 t766 x19_3) x20_4).toNat)) = ji65 := fun h_ => (i64_w _).symm.trans (hji65z h_)
                          have H' := Aside0.mk H
                          clear H
                          have p782 : 0 ≤ (x19_3 : Int) := of_decide_eq_true (by first | (with_reducible assumption) | assumption)
                          have q782 : x19_3 < (t766.length : Int) := of_decide_eq_true (by first | (with_reducible assumption) | assumption)
                          obtain ⟨ad782, A782_0, c782_0, e782, hx782_0, hl782_0, hi782_0⟩ := at_L3 (Kd.S_reads' HO_9.out).2.2 x19_3 p782 q782
                          cases e782
                          obtain ⟨ce782, hce782, hMe782, hcc782⟩ := Kd.S_get HO_9.out [] x19_3 p782 (by first | exact q782 | exact of_decide_eq_true (by first | (with_reducible assumption) | assumption) | (have e_ := (Kd.S_reads' HO_9.out).1; omega))
                          obtain ⟨ve782_0, rfl, ge782_0⟩ := hMe782
                          have hv782_0 := hcc782 0 _ rfl
                          rw [Nat.add_zero, show ((Kd.slice 3 (Kd.int .i64))).sz = 1 from rfl, Nat.mul_one] at hv782_0
                          replace hv782_0 := Option.some.inj (hv782_0.symm.trans hx782_0)
                          rw [hv782_0] at ge782_0
                          have HL782_0 := Aside0.mk (show Kd.R (Kd.int .i64) 3 _ _ _ _ (rd_L3 t766 x19_3) from ge782_0)
                          clear hv782_0 ge782_0
                          clear hcc782 hce782
                          have HR782_0 := Aside0.mk hi782_0
                          have HC782_0 := Aside0.mk hl782_0
                          clear hi782_0 hl782_0
                          replace p782 := eq_true p782
                          replace q782 := eq_true q782
                          have p783 : 0 ≤ (x19_3 : Int) := of_decide_eq_true (by first | (with_reducible assumption) | assumption)
                          have q783 : x19_3 < (t766.length : Int) := of_decide_eq_true (by first | (with_reducible assumption) | assumption)
                          obtain ⟨ad783, A783_0, c783_0, e783, hx783_0, hl783_0, hi783_0⟩ := at_L3 (Kd.S_reads' HO_9.out).2.2 x19_3 p783 q783
                          obtain rfl : ad782 = ad783 := (by injection e783)
                          obtain ⟨ce783, hce783, hMe783, hcc783⟩ := Kd.S_get HO_9.out [] x19_3 p783 (by first | exact q783 | exact of_decide_eq_true (by first | (with_reducible assumption) | assumption) | (have e_ := (Kd.S_reads' HO_9.out).1; omega))
                          obtain ⟨ve783_0, rfl, ge783_0⟩ := hMe783
                          have hv783_0 := hcc783 0 _ rfl
                          rw [Nat.add_zero, show ((Kd.slice 3 (Kd.int .i64))).sz = 1 from rfl, Nat.mul_one] at hv783_0
                          replace hv783_0 := Option.some.inj (hv783_0.symm.trans hx783_0)
                          rw [hv783_0] at ge783_0
                          have HL783_0 := Aside0.mk (show Kd.R (Kd.int .i64) 3 _ _ _ _ (rd_L3 t766 x19_3) from ge783_0)
                          clear hv783_0 ge783_0
                          clear hcc783 hce783
                          have HR783_0 := Aside0.mk hi783_0
                          have HC783_0 := Aside0.mk hl783_0
                          clear hi783_0 hl783_0
                          replace p783 := eq_true p783
                          replace q783 := eq_true q783
                          have ea_ := Option.some.inj (hx782_0.symm.trans hx783_0)
                          injection ea_ with ea_ en_ ec_
                          subst ea_
                          subst ec_
                          clear en_
                          have p784 : 0 ≤ (x20_4 : Int) := of_decide_eq_true (by first | (with_reducible assumption) | assumption)
                          have q784 : x20_4 < ((rd_L3 t766 x19_3).length : Int) := of_decide_eq_true (by first | (with_reducible assumption) | assumption)
                          obtain ⟨ad784, e784, hx784_0⟩ := Kd.at_int (by repeat (first | (with_reducible exact HR783_0.out) | (with_reducible refine Kd.C_alloc ?_ _) | (with_reducible refine Kd.C_drewN ?_ _) | (with_reducible refine Kd.C_drew ?_) | exact HR783_0.out)) x20_4 p784 q784
                          cases e784
                          replace p784 := eq_true p784
                          replace q784 := eq_true q784
                          have p789 : 0 ≤ (x19_3 : Int) := of_decide_eq_true (by first | (with_reducible assumption) | assumption)
                          have q789 : x19_3 < (t763.length : Int) := of_decide_eq_true (by first | (with_reducible assumption) | assumption)
                          obtain ⟨ad789, e789, hx789_0⟩ := Kd.at_int (Kd.R_reads' HO_8.out).2.2 x19_3 p789 q789
                          cases e789
                          replace p789 := eq_true p789
                          replace q789 := eq_true q789
                          go_wp2
                          repeat (go_quiet (fail); try go_wp2)
                          go_roundg k4
                          case measure => have := HJ7.out; have := HK2.out; have := HK3.out; have := HK4.out; omega
                          case rel => exact ⟨(Go.bits .or .i64 x17_4 (ji65)), (wrap64 (x18_4 + 1)), (wrap64 (x20_4 + 1)), (by first | rfl | (simp; done) | (simp only [← hji65] <;> (first | rfl | simp)) | (simp [*]; done)), (by first | rfl | (simp; done) | (simp [*]; done)), (by first | rfl | (simp; done) | (simp [*]; done)), H', ⟨by have := HJ7.out; have := HK2.out; have := HK3.out; have := HK4.out; omega⟩, ⟨by (with_reducible repeat (first | apply Kd.R_alloc | apply Kd.R_drewN | apply Kd.R_drew)); exact HO_8.out⟩, ⟨by (with_reducible repeat (first | apply Kd.S_alloc | apply Kd.S_drewN | apply Kd.S_drew)); exact HO_9.out⟩, ⟨by (with_reducible repeat (first | apply Kd.R_alloc | apply Kd.R_drewN | apply Kd.R_drew)); exact HO_14.out⟩, ⟨by repeat (first | (with_reducible first | exact HB.out | apply below_alloc | apply pw_below_drewN | apply below_drew1) | exact HB.out)⟩⟩
                         ·rw [if_neg c63] at H
                          have c63b0 : ((rd t763 x19_3) == (rd (rd_L3 t766 x19_3) x20_4)) = false := beq_eq_false_iff_ne.mpr c63
                          have c63b1 : ((rd t763 x19_3) != (rd (rd_L3 t766 x19_3) x20_4)) = true := bne_iff_ne.mpr c63
                          obtain rfl := Option.some.inj H
                          have p782 : 0 ≤ (x19_3 : Int) := of_decide_eq_true (by first | (with_reducible assumption) | assumption)
                          have q782 : x19_3 < (t766.length : Int) := of_decide_eq_true (by first | (with_reducible assumption) | assumption)
                          obtain ⟨ad782, A782_0, c782_0, e782, hx782_0, hl782_0, hi782_0⟩ := at_L3 (Kd.S_reads' HO_9.out).2.2 x19_3 p782 q782
                          cases e782
                          obtain ⟨ce782, hce782, hMe782, hcc782⟩ := Kd.S_get HO_9.out [] x19_3 p782 (by first | exact q782 | exact of_decide_eq_true (by first | (with_reducible assumption) | assumption) | (have e_ := (Kd.S_reads' HO_9.out).1; omega))
                          obtain ⟨ve782_0, rfl, ge782_0⟩ := hMe782
                          have hv782_0 := hcc782 0 _ rfl
                          rw [Nat.add_zero, show ((Kd.slice 3 (Kd.int .i64))).sz = 1 from rfl, Nat.mul_one] at hv782_0
                          replace hv782_0 := Option.some.inj (hv782_0.symm.trans hx782_0)
                          rw [hv782_0] at ge782_0
                          have HL782_0 := Aside0.mk (show Kd.R (Kd.int .i64) 3 _ _ _ _ (rd_L3 t766 x19_3) from ge782_0)
                          clear hv782_0 ge782_0
                          clear hcc782 hce782
                          have HR782_0 := Aside0.mk hi782_0
                          have HC782_0 := Aside0.mk hl782_0
                          clear hi782_0 hl782_0
                          replace p782 := eq_true p782
                          replace q782 := eq_true q782
                          have p783 : 0 ≤ (x19_3 : Int) := of_decide_eq_true (by first | (with_reducible assumption) | assumption)
                          have q783 : x19_3 < (t766.length : Int) := of_decide_eq_true (by first | (with_reducible assumption) | assumption)
                          obtain ⟨ad783, A783_0, c783_0, e783, hx783_0, hl783_0, hi783_0⟩ := at_L3 (Kd.S_reads' HO_9.out).2.2 x19_3 p783 q783
                          obtain rfl : ad782 = ad783 := (by injection e783)
                          obtain ⟨ce783, hce783, hMe783, hcc783⟩ := Kd.S_get HO_9.out [] x19_3 p783 (by first | exact q783 | exact of_decide_eq_true (by first | (with_reducible assumption) | assumption) | (have e_ := (Kd.S_reads' HO_9.out).1; omega))
                          obtain ⟨ve783_0, rfl, ge783_0⟩ := hMe783
                          have hv783_0 := hcc783 0 _ rfl
                          rw [Nat.add_zero, show ((Kd.slice 3 (Kd.int .i64))).sz = 1 from rfl, Nat.mul_one] at hv783_0
                          replace hv783_0 := Option.some.inj (hv783_0.symm.trans hx783_0)
                          rw [hv783_0] at ge783_0
                          have HL783_0 := Aside0.mk (show Kd.R (Kd.int .i64) 3 _ _ _ _ (rd_L3 t766 x19_3) from ge783_0)
                          clear hv783_0 ge783_0
                          clear hcc783 hce783
                          have HR783_0 := Aside0.mk hi783_0
                          have HC783_0 := Aside0.mk hl783_0
                          clear hi783_0 hl783_0
                          replace p783 := eq_true p783
                          replace q783 := eq_true q783
                          have ea_ := Option.some.inj (hx782_0.symm.trans hx783_0)
                          injection ea_ with ea_ en_ ec_
                          subst ea_
                          subst ec_
                          clear en_
                          have p784 : 0 ≤ (x20_4 : Int) := of_decide_eq_true (by first | (with_reducible assumption) | assumption)
                          have q784 : x20_4 < ((rd_L3 t766 x19_3).length : Int) := of_decide_eq_true (by first | (with_reducible assumption) | assumption)
                          obtain ⟨ad784, e784, hx784_0⟩ := Kd.at_int (by repeat (first | (with_reducible exact HR783_0.out) | (with_reducible refine Kd.C_alloc ?_ _) | (with_reducible refine Kd.C_drewN ?_ _) | (with_reducible refine Kd.C_drew ?_) | exact HR783_0.out)) x20_4 p784 q784
                          cases e784
                          replace p784 := eq_true p784
                          replace q784 := eq_true q784
                          have p789 : 0 ≤ (x19_3 : Int) := of_decide_eq_true (by first | (with_reducible assumption) | assumption)
                          have q789 : x19_3 < (t763.length : Int) := of_decide_eq_true (by first | (with_reducible assumption) | assumption)
                          obtain ⟨ad789, e789, hx789_0⟩ := Kd.at_int (Kd.R_reads' HO_8.out).2.2 x19_3 p789 q789
                          cases e789
                          replace p789 := eq_true p789
                          replace q789 := eq_true q789
                          go_wp2
                          repeat (go_quiet (fail); try go_wp2)
                          go_ret
                          exact ⟨by first | rfl | (simp [errW_none, errW_some] <;> rfl) | (simp only [← hji37]; first | rfl | (simp [errW_none, errW_some] <;> rfl)) | (simp [*, errW_none, errW_some] <;> rfl), by repeat (first | (with_reducible first | exact HB.out | apply below_alloc | apply pw_below_drewN | apply below_drew1) | exact HB.out)⟩
                        ·rw [if_neg c62] at H
                         exact absurd H (by simp)
                      ·rw [if_neg c60] at H
                       have c60b0 : (x20_4 == 0) = false := beq_eq_false_iff_ne.mpr c60
                       have c60b1 : (x20_4 != 0) = true := bne_iff_ne.mpr c60
                       have c66b0 := eq_true (of_decide_eq_true (by first | (with_reducible assumption) | assumption) : 0 ≤ (rd (rd_L3 t766 x19_3) x20_4))
                       obtain ⟨ji67, hji67⟩ : ∃ j_ : Int, (shl .i64 1 (rd (rd_L3 t766 x19_3) x20_4)) = j_ := ⟨_, rfl⟩
                       replace H : (numnahlaw06_WettingChained.l2 k4 t759 t763 t766 t776 x15_2 (Go.bits .or .i64 x17_4 (ji67)) (wrap64 (x18_4 + 1)) x19_3 (wrap64 (x20_4 + 1))) = some r := by first | (rw [hji67] at H; exact H) | (simp only [hji67] at H ⊢; exact H)
                       have hji67_ : (IntKind.i64.wrap (1 * 2 ^ min (rd (rd_L3 t766 x19_3) x20_4).toNat 64)) = ji67 := hji67
                       have hji67z : (rd (rd_L3 t766 x19_3) x20_4) ≤ 64 → (IntKind.i64.wrap (1 * 2 ^ (rd (rd_L3 t766 x19_3) x20_4).toNat)) = ji67 := shl_small hji67
                       have hji67u : (IntKind.i64.wrap (2 ^ min (rd (rd_L3 t766 x19_3) x20_4).toNat 64)) = ji67 := by have h_ := hji67_; rw [Int.one_mul] at h_; exact h_
                       have hji67v : (rd (rd_L3 t766 x19_3) x20_4) ≤ 64 → (IntKind.i64.wrap (2 ^ (rd (rd_L3 t766 x19_3) x20_4).toNat)) = ji67 := fun hle_ => by have h_ := hji67z hle_; rw [Int.one_mul] at h_; exact h_
                       have hji67y : (wrap64 (1 * 2 ^ min (rd (rd_L3 t766 x19_3) x20_4).toNat 64)) = ji67 := (i64_w _).symm.trans hji67_
                       have hji67x : (rd (rd_L3 t766 x19_3) x20_4) ≤ 64 → (wrap64 (1 * 2 ^ (rd (rd_L3 t766 x19_3) x20_4).toNat)) = ji67 := fun h_ => (i64_w _).symm.trans (hji67z h_)
                       have H' := Aside0.mk H
                       clear H
                       have p782 : 0 ≤ (x19_3 : Int) := of_decide_eq_true (by first | (with_reducible assumption) | assumption)
                       have q782 : x19_3 < (t766.length : Int) := of_decide_eq_true (by first | (with_reducible assumption) | assumption)
                       obtain ⟨ad782, A782_0, c782_0, e782, hx782_0, hl782_0, hi782_0⟩ := at_L3 (Kd.S_reads' HO_9.out).2.2 x19_3 p782 q782
                       cases e782
                       obtain ⟨ce782, hce782, hMe782, hcc782⟩ := Kd.S_get HO_9.out [] x19_3 p782 (by first | exact q782 | exact of_decide_eq_true (by first | (with_reducible assumption) | assumption) | (have e_ := (Kd.S_reads' HO_9.out).1; omega))
                       obtain ⟨ve782_0, rfl, ge782_0⟩ := hMe782
                       have hv782_0 := hcc782 0 _ rfl
                       rw [Nat.add_zero, show ((Kd.slice 3 (Kd.int .i64))).sz = 1 from rfl, Nat.mul_one] at hv782_0
                       replace hv782_0 := Option.some.inj (hv782_0.symm.trans hx782_0)
                       rw [hv782_0] at ge782_0
                       have HL782_0 := Aside0.mk (show Kd.R (Kd.int .i64) 3 _ _ _ _ (rd_L3 t766 x19_3) from ge782_0)
                       clear hv782_0 ge782_0
                       clear hcc782 hce782
                       have HR782_0 := Aside0.mk hi782_0
                       have HC782_0 := Aside0.mk hl782_0
                       clear hi782_0 hl782_0
                       replace p782 := eq_true p782
                       replace q782 := eq_true q782
                       have p783 : 0 ≤ (x19_3 : Int) := of_decide_eq_true (by first | (with_reducible assumption) | assumption)
                       have q783 : x19_3 < (t766.length : Int) := of_decide_eq_true (by first | (with_reducible assumption) | assumption)
                       obtain ⟨ad783, A783_0, c783_0, e783, hx783_0, hl783_0, hi783_0⟩ := at_L3 (Kd.S_reads' HO_9.out).2.2 x19_3 p783 q783
                       obtain rfl : ad782 = ad783 := (by injection e783)
                       obtain ⟨ce783, hce783, hMe783, hcc783⟩ := Kd.S_get HO_9.out [] x19_3 p783 (by first | exact q783 | exact of_decide_eq_true (by first | (with_reducible assumption) | assumption) | (have e_ := (Kd.S_reads' HO_9.out).1; omega))
                       obtain ⟨ve783_0, rfl, ge783_0⟩ := hMe783
                       have hv783_0 := hcc783 0 _ rfl
                       rw [Nat.add_zero, show ((Kd.slice 3 (Kd.int .i64))).sz = 1 from rfl, Nat.mul_one] at hv783_0
                       replace hv783_0 := Option.some.inj (hv783_0.symm.trans hx783_0)
                       rw [hv783_0] at ge783_0
                       have HL783_0 := Aside0.mk (show Kd.R (Kd.int .i64) 3 _ _ _ _ (rd_L3 t766 x19_3) from ge783_0)
                       clear hv783_0 ge783_0
                       clear hcc783 hce783
                       have HR783_0 := Aside0.mk hi783_0
                       have HC783_0 := Aside0.mk hl783_0
                       clear hi783_0 hl783_0
                       replace p783 := eq_true p783
                       replace q783 := eq_true q783
                       have ea_ := Option.some.inj (hx782_0.symm.trans hx783_0)
                       injection ea_ with ea_ en_ ec_
                       subst ea_
                       subst ec_
                       clear en_
                       have p784 : 0 ≤ (x20_4 : Int) := of_decide_eq_true (by first | (with_reducible assumption) | assumption)
                       have q784 : x20_4 < ((rd_L3 t766 x19_3).length : Int) := of_decide_eq_true (by first | (with_reducible assumption) | assumption)
                       obtain ⟨ad784, e784, hx784_0⟩ := Kd.at_int (by repeat (first | (with_reducible exact HR783_0.out) | (with_reducible refine Kd.C_alloc ?_ _) | (with_reducible refine Kd.C_drewN ?_ _) | (with_reducible refine Kd.C_drew ?_) | exact HR783_0.out)) x20_4 p784 q784
                       cases e784
                       replace p784 := eq_true p784
                       replace q784 := eq_true q784
                       go_wp2
                       repeat (go_quiet (fail); try go_wp2)
                       go_roundg k4
                       case measure => have := HJ7.out; have := HK2.out; have := HK3.out; have := HK4.out; omega
                       case rel => exact ⟨(Go.bits .or .i64 x17_4 (ji67)), (wrap64 (x18_4 + 1)), (wrap64 (x20_4 + 1)), (by first | rfl | (simp; done) | (simp only [← hji67] <;> (first | rfl | simp)) | (simp [*]; done)), (by first | rfl | (simp; done) | (simp [*]; done)), (by first | rfl | (simp; done) | (simp [*]; done)), H', ⟨by have := HJ7.out; have := HK2.out; have := HK3.out; have := HK4.out; omega⟩, ⟨by (with_reducible repeat (first | apply Kd.R_alloc | apply Kd.R_drewN | apply Kd.R_drew)); exact HO_8.out⟩, ⟨by (with_reducible repeat (first | apply Kd.S_alloc | apply Kd.S_drewN | apply Kd.S_drew)); exact HO_9.out⟩, ⟨by (with_reducible repeat (first | apply Kd.R_alloc | apply Kd.R_drewN | apply Kd.R_drew)); exact HO_14.out⟩, ⟨by repeat (first | (with_reducible first | exact HB.out | apply below_alloc | apply pw_below_drewN | apply below_drew1) | exact HB.out)⟩⟩
                   ·rw [if_neg c36] at H
                    exact absurd H (by simp)
                ·rw [if_neg c33] at H
                 exact absurd H (by simp)
               ·rw [if_neg c32] at H
                have c32b0 : decide (x20_4 < ((rd_L3 t766 x19_3).length : Int)) = false := decide_eq_false c32
                clear c32
                have H' := Aside0.mk H
                clear H
                have p782 : 0 ≤ (x19_3 : Int) := of_decide_eq_true (by first | (with_reducible assumption) | assumption)
                have q782 : x19_3 < (t766.length : Int) := of_decide_eq_true (by first | (with_reducible assumption) | assumption)
                obtain ⟨ad782, A782_0, c782_0, e782, hx782_0, hl782_0, hi782_0⟩ := at_L3 (Kd.S_reads' HO_9.out).2.2 x19_3 p782 q782
                cases e782
                obtain ⟨ce782, hce782, hMe782, hcc782⟩ := Kd.S_get HO_9.out [] x19_3 p782 (by first | exact q782 | exact of_decide_eq_true (by first | (with_reducible assumption) | assumption) | (have e_ := (Kd.S_reads' HO_9.out).1; omega))
                obtain ⟨ve782_0, rfl, ge782_0⟩ := hMe782
                have hv782_0 := hcc782 0 _ rfl
                rw [Nat.add_zero, show ((Kd.slice 3 (Kd.int .i64))).sz = 1 from rfl, Nat.mul_one] at hv782_0
                replace hv782_0 := Option.some.inj (hv782_0.symm.trans hx782_0)
                rw [hv782_0] at ge782_0
                have HL782_0 := Aside0.mk (show Kd.R (Kd.int .i64) 3 _ _ _ _ (rd_L3 t766 x19_3) from ge782_0)
                clear hv782_0 ge782_0
                clear hcc782 hce782
                have HR782_0 := Aside0.mk hi782_0
                have HC782_0 := Aside0.mk hl782_0
                clear hi782_0 hl782_0
                replace p782 := eq_true p782
                replace q782 := eq_true q782
                go_wp2
                go_roundg k4
                case measure => have := HJ7.out; have := HK2.out; have := HK3.out; have := HK4.out; omega
                case rel => exact ⟨(x17_4), (x18_4), (wrap64 (x19_3 + 1)), (by first | rfl | (simp; done) | (simp [*]; done)), (by first | rfl | (simp; done) | (simp [*]; done)), (by first | rfl | (simp; done) | (simp [*]; done)), H', ⟨by have := HJ7.out; have := HK2.out; have := HK3.out; have := HK4.out; omega⟩, ⟨by (with_reducible repeat (first | apply Kd.R_alloc | apply Kd.R_drewN | apply Kd.R_drew)); exact HO_8.out⟩, ⟨by (with_reducible repeat (first | apply Kd.S_alloc | apply Kd.S_drewN | apply Kd.S_drew)); exact HO_9.out⟩, ⟨by (with_reducible repeat (first | apply Kd.R_alloc | apply Kd.R_drewN | apply Kd.R_drew)); exact HO_14.out⟩, ⟨by repeat (first | (with_reducible first | exact HB.out | apply below_alloc | apply pw_below_drewN | apply below_drew1) | exact HB.out)⟩⟩
              ·rw [if_neg c31] at H
               exact absurd H (by simp)
             ·rw [if_neg c30] at H
              exact absurd H (by simp)
          ·rw [if_neg c28] at H
           have c28b0 : decide (x19_3 < (t766.length : Int)) = false := decide_eq_false c28
           clear c28
           by_cases c68 : x18_3 = t759
           ·rw [if_pos c68] at H
            have c68b0 : (x18_3 == t759) = true := beq_iff_eq.mpr c68
            have c68b1 : (x18_3 != t759) = false := bne_eq_false_iff_eq.mpr c68
            clear c68
            by_cases c69 : (t766.length : Int) = (t763.length : Int)
            ·rw [if_pos c69] at H
             have c69b0 : ((t766.length : Int) == (t763.length : Int)) = true := beq_iff_eq.mpr c69
             have c69b1 : ((t766.length : Int) != (t763.length : Int)) = false := bne_eq_false_iff_eq.mpr c69
             have c69b2 : (t766.length == t763.length) = true := by first | simpa using c69 | (simp at c69 ⊢; omega)
             clear c69
             by_cases c70 : (t763.length : Int) ≥ x15_2
             ·rw [if_pos c70] at H
              have c70b0 : decide (x15_2 ≤ (t763.length : Int)) = true := decide_eq_true c70
              clear c70
              replace H := Option.bind_eq_some_iff.mp H
              obtain ⟨t781, A710, H⟩ := H
              replace H : (some t781) = some r := H
              have A71 := Aside0.mk A710
              clear A710
              obtain rfl := Option.some.inj H
              obtain ⟨Ao72, co72, eo72⟩ := Kd.S_slice HO_9.out
              subst eo72
              go_wp2_with (first | (go_at_call 21; (with_reducible refine (numnahlaw06_awake.calls  t781 _ A71.out ?sideT).mono ?_); (case sideT => exact tab_of (by repeat (first | (with_reducible first | exact HB.out | apply below_alloc | apply pw_below_drewN | apply below_drew1) | exact HB.out)) HT.out); rintro e w73 ⟨rfl, hb⟩; have n0_ := Aside0.mk (Kd.R_below (by (with_reducible repeat (first | apply Kd.R_alloc | apply Kd.R_drewN | apply Kd.R_drew)); exact HO_8.out) hb); have n1_ := Aside0.mk (Kd.S_below (by (with_reducible repeat (first | apply Kd.S_alloc | apply Kd.S_drewN | apply Kd.S_drew)); exact HO_9.out) hb); have n2_ := Aside0.mk (Kd.R_below (by (with_reducible repeat (first | apply Kd.R_alloc | apply Kd.R_drewN | apply Kd.R_drew)); exact HO_14.out) hb); have n3_ := Aside0.mk (below_step (by repeat (first | (with_reducible first | exact HB.out | apply below_alloc | apply pw_below_drewN | apply below_drew1) | exact HB.out)) hb); clear HO_8; clear HO_9; clear HO_14; clear HB; have HO_8 := n0_; have HO_9 := n1_; have HO_14 := n2_; have HB := n3_; clear n0_ n1_ n2_ n3_; (try clear hb); (try clear hb2); (try clear hk); (try clear hi)))
              go_ret
              exact ⟨by first | rfl | (simp [errW_none, errW_some] <;> rfl) | (simp [*, errW_none, errW_some] <;> rfl), by repeat (first | (with_reducible first | exact HB.out | apply below_alloc | apply pw_below_drewN | apply below_drew1) | exact HB.out)⟩
             ·rw [if_neg c70] at H
              have c70b0 : decide (x15_2 ≤ (t763.length : Int)) = false := decide_eq_false c70
              clear c70
              obtain rfl := Option.some.inj H
              obtain ⟨Ao74, co74, eo74⟩ := Kd.S_slice HO_9.out
              subst eo74
              go_wp2
              go_ret
              exact ⟨by first | rfl | (simp [errW_none, errW_some] <;> rfl) | (simp [*, errW_none, errW_some] <;> rfl), by repeat (first | (with_reducible first | exact HB.out | apply below_alloc | apply pw_below_drewN | apply below_drew1) | exact HB.out)⟩
            ·rw [if_neg c69] at H
             have c69b0 : ((t766.length : Int) == (t763.length : Int)) = false := beq_eq_false_iff_ne.mpr c69
             have c69b1 : ((t766.length : Int) != (t763.length : Int)) = true := bne_iff_ne.mpr c69
             have c69b2 : (t766.length == t763.length) = false := by first | simpa using c69 | (simp at c69 ⊢; omega)
             obtain rfl := Option.some.inj H
             obtain ⟨Ao75, co75, eo75⟩ := Kd.S_slice HO_9.out
             subst eo75
             go_wp2
             go_ret
             exact ⟨by first | rfl | (simp [errW_none, errW_some] <;> rfl) | (simp [*, errW_none, errW_some] <;> rfl), by repeat (first | (with_reducible first | exact HB.out | apply below_alloc | apply pw_below_drewN | apply below_drew1) | exact HB.out)⟩
           ·rw [if_neg c68] at H
            have c68b0 : (x18_3 == t759) = false := beq_eq_false_iff_ne.mpr c68
            have c68b1 : (x18_3 != t759) = true := bne_iff_ne.mpr c68
            obtain rfl := Option.some.inj H
            obtain ⟨Ao76, co76, eo76⟩ := Kd.S_slice HO_9.out
            subst eo76
            go_wp2
            go_ret
            exact ⟨by first | rfl | (simp [errW_none, errW_some] <;> rfl) | (simp [*, errW_none, errW_some] <;> rfl), by repeat (first | (with_reducible first | exact HB.out | apply below_alloc | apply pw_below_drewN | apply below_drew1) | exact HB.out)⟩
    ·rw [if_neg c18] at H
     have c18b0 : (t767 == 0) = false := beq_eq_false_iff_ne.mpr c18
     have c18b1 : (t767 != 0) = true := bne_iff_ne.mpr c18
     by_cases c77 : t767 = 6
     ·rw [if_pos c77] at H
      have c77b0 : (t767 == 6) = true := beq_iff_eq.mpr c77
      have c77b1 : (t767 != 6) = false := bne_eq_false_iff_eq.mpr c77
      clear c77
      replace H := Option.bind_eq_some_iff.mp H
      obtain ⟨t775, A780, H⟩ := H
      replace H : (some t775) = some r := H
      have A78 := Aside0.mk A780
      clear A780
      obtain rfl := Option.some.inj H
      go_wp2_with (first | (go_at_call 21; (with_reducible refine (numnahlaw06_awake.calls  t775 _ A78.out ?sideT).mono ?_); (case sideT => exact tab_of (by repeat (first | (with_reducible first | exact HB.out | apply below_alloc | apply pw_below_drewN | apply below_drew1) | exact HB.out)) HT.out); rintro e w79 ⟨rfl, hb⟩; have n0_ := Aside0.mk (Kd.R_below (by (with_reducible repeat (first | apply Kd.R_alloc | apply Kd.R_drewN | apply Kd.R_drew)); exact HO_7.out) hb); have n1_ := Aside0.mk (Kd.R_below (by (with_reducible repeat (first | apply Kd.R_alloc | apply Kd.R_drewN | apply Kd.R_drew)); exact HO_8.out) hb); have n2_ := Aside0.mk (Kd.S_below (by (with_reducible repeat (first | apply Kd.S_alloc | apply Kd.S_drewN | apply Kd.S_drew)); exact HO_9.out) hb); have n3_ := Aside0.mk (below_step (by repeat (first | (with_reducible first | exact HB.out | apply below_alloc | apply pw_below_drewN | apply below_drew1) | exact HB.out)) hb); clear HO_7; clear HO_8; clear HO_9; clear HB; have HO_7 := n0_; have HO_8 := n1_; have HO_9 := n2_; have HB := n3_; clear n0_ n1_ n2_ n3_; (try clear hb); (try clear hb2); (try clear hk); (try clear hi)))
      go_ret
      exact ⟨by first | rfl | (simp [errW_none, errW_some] <;> rfl) | (simp [*, errW_none, errW_some] <;> rfl), by repeat (first | (with_reducible first | exact HB.out | apply below_alloc | apply pw_below_drewN | apply below_drew1) | exact HB.out)⟩
     ·rw [if_neg c77] at H
      have c77b0 : (t767 == 6) = false := beq_eq_false_iff_ne.mpr c77
      have c77b1 : (t767 != 6) = true := bne_iff_ne.mpr c77
      obtain rfl := Option.some.inj H
      go_wp2
      go_ret
      exact ⟨by first | rfl | (simp [errW_none, errW_some] <;> rfl) | (simp [*, errW_none, errW_some] <;> rfl), by repeat (first | (with_reducible first | exact HB.out | apply below_alloc | apply pw_below_drewN | apply below_drew1) | exact HB.out)⟩

end Go.Proofs.YtpbeaaihdmfnlaaDoor.G

/- ### LChained -/
/- The law of chains, in plain words. -/
namespace Go.Proofs.YtpbeaaihdmfnlaaDoor.P
open Go Go.RowKit Go.Proofs.YtpbeaaihdmfnlaaDoor.M Go.Proofs.YtpbeaaihdmfnlaaDoor.H Go.Proofs.YtpbeaaihdmfnlaaDoor.G
open Go.Proofs.YtpbeaaihdmfnlaaDoorW.PrintWords Go.Proofs.YtpbeaaihdmfnlaaDoorW.PrintMore

theorem min_deg {n s : Nat} {l : List S48} (h : Tamed n l) (hs : s < 2 ^ n) (hf : cl (forcedM (nearOf l)) n s = full n) {few : Int} (h0 : few ≤ n) (h1 : ∀ p, p < n → few ≤ (card (nearOf l p) : Int)) : few ≤ (card s : Int) := by
  have hn := h.g.le
  by_cases hsf : s = full n
  · rw [hsf, card_full (by omega)]; exact h0
  · cases hx : nextM (nearOf l) s with
    | none =>
      have h2 := next_none (lt64 hn hs) hx
      have h3 : cl (forcedM (nearOf l)) n s = s := by unfold cl; rw [cl_of_closed h2]
      exact absurd (h3.symm.trans hf) hsf
    | some v =>
      obtain ⟨k1, k2, k3, k4⟩ := one_force hn h.g.lt hx
      have hv : v < n := bit_lt hs k1
      generalize low (andNot (nearOf l v) s) = u at k2 k3 k4
      have hle := h1 v hv
      obtain ⟨s', hs'⟩ : ∃ s', andNot s (2 ^ v) = s' := ⟨_, rfl⟩
      have bs : ∀ i, s'.testBit i = (s.testBit i && !(decide (v = i))) := fun i => by rw [← hs', testBit_andNot, testBit_pow]
      have e1 : s' ||| 2 ^ v = s := by
        apply Nat.eq_of_testBit_eq
        intro i
        rw [Nat.testBit_or, bs, testBit_pow]
        by_cases e : v = i
        · subst e; simp [k1]
        · simp [e]
      have c1 : card s = card s' + 1 := by
        rw [← e1]; exact card_insert (by rw [bs]; simp) (by omega)
      have c2 : card (s' ||| 2 ^ u) = card s' + 1 := card_insert (by rw [bs, k3]; rfl) (by omega)
      have hsub : Sub (nearOf l v) (s' ||| 2 ^ u) := fun i hi => by
        rw [Nat.testBit_or, bs]
        cases hb : s.testBit i with
        | true =>
          have := (h.g.bit hi).1
          simp [this]
        | false =>
          have : (andNot (nearOf l v) s).testBit i = true := by rw [testBit_andNot, hi, hb]; rfl
          rw [k2] at this
          rw [this]; simp
      have := card_mono hsub
      omega
theorem flat_length {M : List (List Nat)} {n : Nat} (h : M.flatten.Nodup) (hm : ∀ x, x ∈ M.flatten ↔ x < n) : M.flatten.length = n := by
  have h1 := nodup_lt h (fun x hx => (hm x).1 hx)
  have h2 := nodup_le (l := List.range n) (m := M.flatten) List.nodup_range (fun x hx => (hm x).2 (List.mem_range.1 hx))
  rw [List.length_range] at h2
  omega
theorem flat_at {M : List (List Nat)} {i j : Nat} (hi : i < M.length) (hj : j < (M[i]).length) : ∃ rest, M.flatten = ((M.take i).flatten ++ (M[i]).take j) ++ (M[i])[j] :: rest := by
  refine ⟨(M[i]).drop (j + 1) ++ (M.drop (i + 1)).flatten, ?_⟩
  have e1 : M.flatten = (M.take i).flatten ++ (M.drop i).flatten := by rw [← List.flatten_append, List.take_append_drop]
  rw [e1, List.drop_eq_getElem_cons hi, List.flatten_cons]
  have e2 : M[i] = (M[i]).take j ++ (M[i])[j] :: (M[i]).drop (j + 1) := by rw [← List.drop_eq_getElem_cons hj, List.take_append_drop]
  conv => lhs; rw [e2]
  simp only [List.append_assoc, List.cons_append]
section
variable {n s : Nat} {l : List S48} {M : List (List Nat)}
structure Seen (M : List (List Nat)) (n : Nat) (pre : List Nat) (seen : Nat) : Prop where
  lt : seen < 2 ^ n
  bit : ∀ x, seen.testBit x = true ↔ x ∈ pre
theorem chained_l2 (h : Tamed n l) (hs : s < 2 ^ n) (hI : ChInv (nearOf l) s (full n) M) (few : Int) {i : Nat} (hi : i < M.length)
    (next : ∀ seen, Seen M n (M.take (i + 1)).flatten seen → Ev (fun k => numnahlaw06_WettingChained.l1 k (n : Int) (natsI (bitsOf s)) (M.map natsI) (R (nearOf l) n) few (seen : Int) ((M.take (i + 1)).flatten.length : Int) ((i + 1 : Nat) : Int)) true) : ∀ (d j seen : Nat), j + d = (M[i]).length → Seen M n ((M.take i).flatten ++ (M[i]).take j) seen →
    Ev (fun k => numnahlaw06_WettingChained.l2 k (n : Int) (natsI (bitsOf s)) (M.map natsI) (R (nearOf l) n) few (seen : Int) (((M.take i).flatten ++ (M[i]).take j).length : Int) (i : Int) (j : Int)) true := by
  have hn := h.g.le
  have hbd := hI.bound (full_lt n n (Nat.le_refl n)) (M[i]) (List.getElem_mem hi)
  have hML : M.length ≤ 64 := by rw [hI.length]; exact Nat.le_trans (List.length_filter_le _ _) (by simp)
  have hMM : (M.map natsI).length = M.length := List.length_map _
  have hrd := rd_M hi
  have hfl : M.flatten.length = n := flat_length hI.nodup (fun x => by rw [hI.mem, testBit_full, decide_eq_true_iff])
  intro d
  induction d with
  | zero =>
    intro j seen hj hS
    have e : (M.take i).flatten ++ (M[i]).take j = (M.take (i + 1)).flatten := by
      rw [List.take_of_length_le (l := M[i]) (by omega), List.take_succ_eq_append_getElem hi, List.flatten_append]
      simp
    rw [e] at hS ⊢
    refine Ev.step (fun k => ?_) (next seen hS)
    simp only [numnahlaw06_WettingChained.l2]
    rw [hMM, if_pos (by omega), if_pos (by omega), hrd, natsI_length, if_neg (by omega), wrap_succ (by omega)]
  | succ d ih =>
    intro j seen hj hS
    have hjl : j < (M[i]).length := by omega
    obtain ⟨rest, hfe⟩ := flat_at hi hjl
    obtain ⟨p, hp⟩ : ∃ p, (M[i])[j] = p := ⟨_, rfl⟩
    obtain ⟨pre, hpre⟩ : ∃ pre, (M.take i).flatten ++ (M[i]).take j = pre := ⟨_, rfl⟩
    have hpn : p < n := by rw [← hp]; exact hbd.2.2.2 _ (List.getElem_mem _)
    have hnd := hI.nodup
    rw [hfe, hp, hpre, List.nodup_append] at hnd
    have hpp : p ∉ pre := fun hm => hnd.2.2 p hm p (by simp) rfl
    have hprel : pre.length < n := by
      have := congrArg List.length hfe
      rw [hfl, hpre, List.length_append, List.length_cons] at this
      omega
    have hrp : rd (natsI (M[i])) (j : Int) = (p : Int) := by rw [rd_nats hjl, hp]
    have e2 : (M.take i).flatten ++ (M[i]).take (j + 1) = pre ++ [p] := by
      rw [List.take_succ_eq_append_getElem hjl, ← List.append_assoc, hpre, hp]
    have hsl := hS.lt
    rw [hpre] at hS
    have hb0 : seen.testBit p = false := by
      cases hb : seen.testBit p with
      | false => rfl
      | true => exact absurd ((hS.bit p).1 hb) hpp
    have hpw : 2 ^ p < 2 ^ n := Nat.pow_lt_pow_right (by decide) hpn
    have hS2 : Seen M n ((M.take i).flatten ++ (M[i]).take (j + 1)) (seen ||| 2 ^ p) := by
      rw [e2]
      refine ⟨Nat.or_lt_two_pow hsl hpw, fun x => ?_⟩
      rw [Nat.testBit_or, Bool.or_eq_true, hS.bit x, testBit_pow, decide_eq_true_iff, List.mem_append, List.mem_singleton]
      exact ⟨fun h => h.imp_right Eq.symm, fun h => h.imp_right Eq.symm⟩
    have go := ih (j + 1) (seen ||| 2 ^ p) (by omega) hS2
    rw [e2, List.length_append, List.length_singleton] at go
    rw [hpre]
    have h12 := p12 hn
    have eor : Go.bits .or .i64 (seen : Int) (shl .i64 1 (p : Int)) = ((seen ||| 2 ^ p : Nat) : Int) := by rw [shl_i (by omega), orI (by omega) (by omega)]
    have ew : wrap64 ((pre.length : Int) + 1) = ((pre.length + 1 : Nat) : Int) := wrap_succ (by omega)
    refine Ev.step (fun k => ?_) go
    simp only [numnahlaw06_WettingChained.l2]
    rw [hMM, if_pos (by omega), if_pos (by omega), hrd, natsI_length, if_pos (by omega), if_pos (by omega), hrp, if_neg (by omega), if_neg (by omega), if_pos (by omega), tmod_bit (by omega), hb0, if_neg (by simp)]
    by_cases hj0 : j = 0
    · subst hj0
      have hbl : (natsI (bitsOf s)).length = M.length := by rw [natsI_length, hI.length]
      have hhead : rd (natsI (bitsOf s)) (i : Int) = (p : Int) := by
        rw [rd_nats (by rw [← hI.length]; exact hi)]
        have hh := congrArg (fun L => L[i]?) hI.heads
        simp only [List.getElem?_map, List.getElem?_eq_getElem hi, Option.map_some] at hh
        rw [List.getElem?_eq_getElem (by rw [← hI.length]; exact hi), Option.map_some, List.head?_eq_getElem?, List.getElem?_eq_getElem hjl, hp] at hh
        have := Option.some.inj (Option.some.inj hh)
        omega
      rw [if_neg (by omega), if_pos (by omega), hbl, if_neg (by omega), if_pos (by omega), hhead, if_pos rfl, eor, ew, wrap_succ (by omega)]
    · obtain ⟨q, hq⟩ : ∃ q, (M[i])[j - 1] = q := ⟨_, rfl⟩
      have hqn : q < n := by rw [← hq]; exact hbd.2.2.2 _ (List.getElem_mem _)
      have hadj : (nearOf l p).testBit q = true := by
        have := hI.adj (M[i]) (List.getElem_mem hi) (j - 1) (by omega)
        simp only [show j - 1 + 1 = j from by omega] at this
        rw [hp, hq] at this; exact this
      have ew1 : wrap64 ((j : Int) - 1) = ((j - 1 : Nat) : Int) := by have := hbd.2.2.1; unfold wrap64; omega
      have hrq : rd (natsI (M[i])) ((j - 1 : Nat) : Int) = (q : Int) := by rw [rd_nats (by omega), hq]
      rw [if_pos (by omega), R_length, if_pos (by omega), ew1, if_pos (by omega), if_pos (by omega), hrq, if_pos (by omega), rd_R hpn, tmod_bit (by omega), hadj, if_neg (by simp), if_neg (by omega), eor, ew, wrap_succ (by omega)]
theorem chained_l1 (h : Tamed n l) (hs : s < 2 ^ n) (hI : ChInv (nearOf l) s (full n) M) (few : Int) (hfew : few ≤ (card s : Int)) : ∀ (d i seen : Nat), i + d = M.length → Seen M n (M.take i).flatten seen →
    Ev (fun k => numnahlaw06_WettingChained.l1 k (n : Int) (natsI (bitsOf s)) (M.map natsI) (R (nearOf l) n) few (seen : Int) ((M.take i).flatten.length : Int) (i : Int)) true := by
  have hfl : M.flatten.length = n := flat_length hI.nodup (fun x => by rw [hI.mem, testBit_full, decide_eq_true_iff])
  have hMM : (M.map natsI).length = M.length := List.length_map _
  have hbl : (natsI (bitsOf s)).length = M.length := by rw [natsI_length, hI.length]
  intro d
  induction d with
  | zero =>
    intro i seen hi hS
    rw [List.take_of_length_le (by omega), hfl]
    refine Ev.step (fun k => ?_) ev_awake
    simp only [numnahlaw06_WettingChained.l1]
    have hc : ((natsI (bitsOf s)).length : Int) = (card s : Int) := by rw [natsI_length]; rfl
    rw [hMM, if_neg (by omega), if_pos trivial, if_pos (by omega), if_pos (by omega)]
  | succ d ih =>
    intro i seen hi hS
    have hil : i < M.length := by omega
    have e0 : (M.take i).flatten ++ (M[i]).take 0 = (M.take i).flatten := by simp
    have := chained_l2 h hs hI few hil (fun seen hS => ih (i + 1) seen (by omega) hS) (M[i]).length 0 seen (by omega) (by rw [e0]; exact hS)
    rw [e0] at this
    refine Ev.step (fun k => ?_) this
    simp only [numnahlaw06_WettingChained.l1]
    rw [hMM, if_pos (by omega)]
    rfl
theorem mn_le (a b : Int) : mn a b ≤ a ∧ mn a b ≤ b := by unfold mn; split <;> omega
theorem chained_l0 (h : Tamed n l) (hs : s < 2 ^ n) (hI : ChInv (nearOf l) s (full n) M) (hf : cl (forcedM (nearOf l)) n s = full n) : ∀ (d i : Nat) (few : Int), i + d = n → few ≤ n → (∀ p, p < i → few ≤ (card (nearOf l p) : Int)) →
    Ev (fun k => numnahlaw06_WettingChained.l0 k (n : Int) (natsI (bitsOf s)) (M.map natsI) (R (nearOf l) n) few (i : Int)) true := by
  have hn := h.g.le
  intro d
  induction d with
  | zero =>
    intro i few hi h1 h2
    have := chained_l1 h hs hI few (min_deg h hs hf h1 (fun p hp => h2 p (by omega))) M.length 0 0 (by omega) ⟨Nat.two_pow_pos n, fun x => by simp⟩
    refine Ev.step (fun k => ?_) this
    simp only [numnahlaw06_WettingChained.l0]
    rw [if_neg (by omega)]
    rfl
  | succ d ih =>
    intro i few hi h1 h2
    have hnear : nearOf l i < 4096 := Nat.lt_of_lt_of_le (h.g.lt i) (p12 hn)
    refine Ev.step (f := fun k => (numnahref06_Count.f k ((nearOf l i : Nat) : Int)).bind fun t780 => (numnahlaw06_WettingChained.l0 k (n : Int) (natsI (bitsOf s)) (M.map natsI) (R (nearOf l) n) (mn few t780) ((i + 1 : Nat) : Int))) (fun k => ?_) ?_
    · simp only [numnahlaw06_WettingChained.l0]
      rw [if_pos (by omega), if_pos (by omega), R_length, if_pos (by omega), rd_R (by omega), wrap_succ (by omega)]
    · refine Ev.bind (ev_count hnear) ?_
      obtain ⟨m1, m2⟩ := mn_le few ((card (nearOf l i) : Nat) : Int)
      refine ih (i + 1) _ (by omega) (by omega) (fun p hp => ?_)
      by_cases e : p = i
      · subst e; exact m2
      · have := h2 p (by omega); omega
end
theorem chained_pure (a0 : Int) (_ : inI a0) (l : List S48) (hl : fitL l) (a2 : Int) (_ : inI a2) : ∃ k, numnahlaw06_WettingChained.f k a0 l a2 = some true := by
  obtain ⟨n, out, h, hv⟩ := tame_ex a0 hl
  obtain ⟨s, hs, hse⟩ := ev_some h.g.le a2
  have g := good_forced h.g.lt
  have hcl := cl_lt g hs
  have e2 := chainsX_of h.g (h.both hs) hs
  have f1 : wetting_Chains.f (n : Int) out (natsI (bitsOf s)) = some (chainsX (n : Int) out (natsI (bitsOf s))) := by
    unfold wetting_Chains.f; rw [if_pos ⟨h.inI, h.fit, h.fitS hs⟩]
  have hcl2 : ((natsI (bitsOf (cl (forcedM (nearOf out)) n s))).length : Int) = (card (cl (forcedM (nearOf out)) n s) : Int) := by rw [natsI_length]; rfl
  refine Ev.rounds ?_
  simp only [numnahlaw06_WettingChained.f]
  refine Ev.bind hv ?_
  refine Ev.bind hse ?_
  simp only [f1, h.close hs, Option.bind_some, if_true]
  rw [e2, hcl2]
  have hiff := card_eq_full hcl (by have := h.g.le; omega)
  by_cases hf : cl (forcedM (nearOf out)) n s = full n
  · simp only [if_pos hf]
    have e3 : (((0 : Int) == 0) != (((card (cl (forcedM (nearOf out)) n s) : Nat) : Int) == (n : Int))) = false := by
      rw [hiff.2 hf]; simp
    rw [e3]
    have hI := chains_inv h.g.le h.g.lt (fun _ _ k => h.g.sym k) hs
    rw [hf] at hI
    refine Ev.step (f := fun k => numnahlaw06_WettingChained.l0 k (n : Int) (natsI (bitsOf s)) ((chainsN (nearOf out) n s).map natsI) (R (nearOf out) n) (n : Int) 0) (fun k => ?_) ?_
    · simp only [numnahlaw06_WettingChained.j0]
      rw [if_neg (by simp), if_pos trivial, h.near, Option.bind_some]
    · exact chained_l0 h hs hI hf n 0 (n : Int) (by omega) (Int.le_refl _) (fun p hp => by omega)
  · simp only [if_neg hf]
    have e3 : (((6 : Int) == 0) != (((card (cl (forcedM (nearOf out)) n s) : Nat) : Int) == (n : Int))) = false := by
      have : ¬ ((card (cl (forcedM (nearOf out)) n s) : Nat) : Int) = (n : Int) := fun e => hf (hiff.1 (by omega))
      rw [beq_eq_false_iff_ne.2 this]; rfl
    rw [e3]
    refine Ev.step (fun k => ?_) ev_awake
    simp only [numnahlaw06_WettingChained.j0]
    rw [if_neg (by simp), if_neg (by omega), if_pos trivial]
end Go.Proofs.YtpbeaaihdmfnlaaDoor.P
