/- Several texts, joined. -/
import Derived.Test.YtpbeaaihdmfnlaaDoorQChronicles3

/- ### Ws -/
namespace Go.Proofs.YtpbeaaihdmfnlaaDoor.H
open Go Go.RowKit Go.Shelf Go.Proofs.YtpbeaaihdmfnlaaDoor.M Go.Proofs.YtpbeaaihdmfnlaaDoor.G Go.Proofs.YtpbeaaihdmfnlaaDoorW.PrintWords
attribute [local go_sem] Oper.semAt_some wide_fn
attribute [local go_sem ↓ high] loadAt81 storeAt81
attribute [local go_sem] rowOk_drew cellsAt_drew run_loadRow run_storeRow
def toS (p : Nat × Nat) : S48 := ⟨p.1, p.2⟩
theorem pairsN_length (l : List (Nat × Nat)) : (pairsN l).length = l.length * 2 := by
  induction l with
  | nil => rfl
  | cons x l ih => simp only [pairsN, List.flatMap_cons, List.length_append, List.length_cons] at ih ⊢; simp at ih ⊢; omega
theorem pairsN_get (l : List (Nat × Nat)) : ∀ (j : Nat) (p : Nat × Nat), l[j]? = some p → ((pairsN l).drop (j * 2)).take 2 = [.int .i64 (p.1 : Int), .int .i64 (p.2 : Int)] := by
  induction l with
  | nil => intro j p h; simp at h
  | cons x l ih =>
    intro j p h
    cases j with
    | zero => simp at h; subst h; simp [pairsN]
    | succ j =>
      simp only [List.getElem?_cons_succ] at h
      have := ih j p h
      rw [show (j + 1) * 2 = j * 2 + 2 by omega]
      simpa [pairsN] using this
/-- A list of pairs of the call's own. -/
def ResP (w' : World) (base : Nat) (v : Value) (l : List S48) : Prop := Kd.R k48 48 w' base (fun _ => True) v l
theorem resP_pairs {w' : World} {base : Nat} {v : Value} {l : List (Nat × Nat)} (h : w'.ownsRow base 48 2 v l.length (pairsN l)) : ResP w' base v (l.map toS) := by
  refine ⟨fun _ _ => trivial, pairsN l, by rw [List.length_map]; exact h, ⟨by show (pairsN l).length = _ * 2; rw [pairsN_length, List.length_map], fun j q hj => ?_⟩⟩
  rw [List.getElem?_map] at hj
  obtain ⟨p, hp, rfl⟩ := Option.map_eq_some_iff.1 hj
  show k48.M _ _ _ _ (((pairsN l).drop (j * 2)).take 2)
  rw [pairsN_get l j p hp]
  exact k48_mkM _ _ _ (toS p)
theorem resP_nil (w' : World) (base : Nat) : ResP w' base (.slice none 0 0) [] := Kd.R_nil _ _ _ _ _
theorem resP_low {w' : World} {base base' : Nat} {v : Value} {l : List S48} (h : ResP w' base v l) (hb : base' ≤ base) : ResP w' base' v l := Kd.R_lower h hb
theorem info48' : (Tryd.prog.info? 48).map (fun i => (i.zero, i.size, i.bytes)) = some (some (.agg #[.int .i64 0, .int .i64 0]), 2, 16) := by kernel_rfl
theorem chronL_len (near : Nat → Nat) : ∀ k s, (chronL near k s).1.length ≤ k := by
  intro k
  induction k with
  | zero => intro s; simp [chronL]
  | succ k ih =>
    intro s
    rw [chronL]
    split
    · simp
    · rename_i v _; have := ih (s ||| 2 ^ low (andNot (near v) s)); simp; omega
theorem row_pair {W : World} {N : Nat} {e : TypeId} {v : Value} {l : List (Nat × Nat)} (h : W.ownsRow N e 2 v l.length (pairsN l)) (j : Nat) (hj : j < l.length) : ∃ g cap, v = .slice (some ⟨g, 0, none⟩) l.length cap ∧ N ≤ g ∧ g < W.heap.size ∧
    W.cell? ⟨g, j * 2, none⟩ = some (.int .i64 ((l.getD j (0, 0)).1 : Int)) ∧ W.cell? ⟨g, j * 2 + 1, none⟩ = some (.int .i64 ((l.getD j (0, 0)).2 : Int)) := by
  rcases h.2 with ⟨_, h0⟩ | ⟨g, cap, cur, rfl, hg, hh, r⟩
  · omega
  · have hp : l[j]? = some (l.getD j (0, 0)) := by simp [List.getD_eq_getElem?_getD, List.getElem?_eq_getElem hj]
    have hs := pairsN_get l j _ hp
    have hl := pairsN_length l
    have h0 : (pairsN l)[j * 2]? = some (.int .i64 ((l.getD j (0, 0)).1 : Int)) := by
      have := congrArg (fun x => x[0]?) hs
      simpa using this
    have h1 : (pairsN l)[j * 2 + 1]? = some (.int .i64 ((l.getD j (0, 0)).2 : Int)) := by
      have := congrArg (fun x => x[1]?) hs
      simpa using this
    exact ⟨g, cap, rfl, hg, (Array.getElem?_eq_some_iff.1 hh).1, by rw [World.ownsRow.cellAt h _ (by omega)]; exact h0, by rw [World.ownsRow.cellAt h _ (by omega)]; exact h1⟩
def chronX (n : Int) (l : List S48) (s : List Int) : List S48 × Int := match bothM n l s with
  | none => ([], 2)
  | some (g, t) => ((chronL g.near (2 ^ g.n - t) t).1.map toS, 0)
theorem chronicle_any' (g : Gr) (hg : g.Ok) (cs : Array Value) (hcs : cs = g.cells) (s : Nat) (hs : s < 2 ^ g.n) (w : World) (ht : Tab w) :
    Calls Tryd.prog 78 #[.agg cs, .int .u64 s] w fun e w' => ∃ v, e = .returned (.tuple #[v, .int .u64 ((chronL g.near (2 ^ g.n - s) s).2 : Nat)]) ∧
      w'.ownsRow w.heap.size 108 2 v (chronL g.near (2 ^ g.n - s) s).1.length (pairsN (chronL g.near (2 ^ g.n - s) s).1) ∧ Below w.heap.size w w' := by subst hcs; exact chronicle_any g hg s hs w ht
set_option maxHeartbeats 4000000 in
set_option maxRecDepth 100000 in
theorem chronE_any (n : Int) (A : Option Addr) (c : Nat) (l : List S48) (A2 : Option Addr) (c2 : Nat) (s : List Int) (w : World) (hl : Kd.C k48 w A l.length l) (hc : l.length ≤ c) (hlen : fitL l) (hn : inI n) (hs : Kd.C (Kd.int .i64) w A2 s.length s) (hc2 : s.length ≤ c2) (hlen2 : fitL s) (ht : Tab w) : Calls Tryd.prog 54 #[.int .i64 n, .slice A l.length c, .slice A2 s.length c2] w fun e w' => ∃ v, e = .returned (.tuple #[v, .int .i64 (chronX n l s).2]) ∧ ResP w' w.heap.size v (chronX n l s).1 ∧ Below w.heap.size w w' := by
  have h1w : 1 < w.heap.size := (ht 0 (by decide)).2
  refine (callsIn_wide (n := 9)).1 ?_
  refine callsIn_of_wp Tryd.func54 rfl trivial ?_
  simp only [Tryd.ntmps54, List.size_toArray, List.length_cons, List.length_nil, Nat.reduceAdd, Nat.reduceSub, Array.replicate_succ, Array.replicate_zero, List.push_toArray, List.append_toArray, List.nil_append, List.cons_append]
  have HL := Lib.hid hl
  have HS := Lib.hid hs
  have HT := Lib.hid ht
  unfold fitL at hlen hlen2
  obtain ⟨hn1, hn2⟩ := hn
  clear hl hs ht
  gi_wp2_with fail
  refine (callsIn_wide.2 (both_any n A c l A2 c2 s _ HL.out hc hlen hn1 hn2 HS.out hc2 hlen2)).mono ?_
  rintro e w1 ⟨x, near, b, t, rfl, hg, hb1⟩
  have hsz := hb1.size
  obtain ⟨m0, m1, m2⟩ := lay1 w1 (.cells #[.int .i64 0, .int .u64 0, .int .u64 0, .int .u64 0, .int .u64 0, .int .u64 0, .int .u64 0, .int .u64 0, .int .u64 0, .int .u64 0, .int .u64 0, .int .u64 0, .int .u64 0] 81)
  obtain ⟨y1, y2, y3, y4⟩ := setRow_two (B := w1.heap.size) (cs := cellsI x near) m0 (Nat.le_refl _)
  rw [m1] at y3
  have bW2 := hb1.trans ((m2.trans y4).mono (B' := w.heap.size) (by omega))
  have hrf := rowFree_of m0 rfl
  have hag := aggOk_cells x near
  have hr1 := rowOk_any y1 rfl
  have hr2 := cellsAt_of y1
  have HG := Lib.hid hg
  have Y1 := Lib.hid y1
  have BW := Lib.hid bW2
  have HTW := Lib.hid (tab_below bW2 h1w HT.out)
  clear hb1 m0 m1 m2 y1 y2 y4 bW2 hg
  cases b with
  | false =>
    gi_wp2_with fail
    have hnn : bothM n l s = none := by
      rcases HG.out with ⟨h, _⟩ | ⟨g, _, h, _⟩
      · exact h
      · cases h
    refine bodyPost_ret (v := .tuple #[.slice none 0 0, .int .i64 2]) (results_tmp2 (t := 6) (u := 7) rfl _ _ _) rfl ?_
    unfold chronX; rw [hnn]
    exact ⟨_, rfl, resP_nil _ _, BW.out⟩
  | true =>
    obtain ⟨g, hg, hcg, hlt⟩ : ∃ g, bothM n l s = some (g, t) ∧ cellsI x near = g.cells ∧ t < 2 ^ g.n := by
      rcases HG.out with ⟨_, h⟩ | ⟨g, h1, _, h2, h3⟩
      · cases h
      · exact ⟨g, h1, h2, h3⟩
    have hok : g.Ok := by
      unfold bothM at hg
      obtain ⟨g', h1, h2⟩ := Option.bind_eq_some_iff.1 hg
      obtain ⟨t', _, h4⟩ := Option.map_eq_some_iff.1 h2
      cases h4
      exact (graphM_ok h1).1
    have hle := hok.le
    have hpos := hok.pos
    have HGG := Lib.hid hg
    have HCG := Lib.hid hcg
    have HLT := Lib.hid hlt
    have HOK := Lib.hid hok
    clear hg hcg hlt hok
    gi_wp2_with fail
    refine (callsIn_wide.2 (chronicle_any' g HOK.out _ HCG.out t HLT.out _ HTW.out)).mono ?_
    rintro e w2 ⟨v, rfl, hrow, hb2⟩
    rw [y3] at hb2
    have bW3 := BW.out.trans (hb2.mono (B' := w.heap.size) (by omega))
    have hsz2 := hb2.size
    rw [y3] at hsz2
    obtain ⟨C, hC⟩ : ∃ C, (chronL g.near (2 ^ g.n - t) t).1 = C := ⟨_, rfl⟩
    have hCl : C.length ≤ 4096 := by
      have h1 := chronL_len g.near (2 ^ g.n - t) t
      have h2 : 2 ^ g.n ≤ 4096 := Nat.pow_le_pow_right (by decide) hle
      rw [hC] at h1; omega
    rw [hC] at hrow
    have HC := Lib.hid hC
    have HROW := Lib.hid hrow
    have HB2 := Lib.hid bW3
    obtain ⟨A3, c3, hv⟩ := own_slice hrow
    subst hv
    clear hC hb2 bW3 hr1 hr2 hrf hag hrow
    gi_wp2_with fail
    obtain ⟨N, hN⟩ : ∃ N, w2.heap.size = N := ⟨_, rfl⟩
    obtain ⟨i0, hi, hz0, hz1, hz2⟩ := info_parts info48'
    gi_loopg [13, 34] C.length (fun k s13 s34 W => ∃ i : Nat, s34 = .int .i64 (i : Int) ∧ i ≤ C.length ∧ C.length ≤ k + i ∧ Below N w2 W ∧ W.ownsRow N 48 2 s13 i (pairsN (C.take i)))
    case atStart => exact ⟨0, rfl, by omega, by omega, Below.refl _ _, World.ownsRow_nil _ _ _ _⟩
    case round =>
      obtain ⟨i, rfl, hi2, hk, hB, hr⟩ := hrel
      have HB := Lib.hid hB
      have HR := Lib.hid hr
      clear hB hr
      by_cases hil : i < C.length
      · obtain ⟨g', cap, hsl, hgN, hgl, hc0, hc1⟩ := row_pair HROW.out i hil
        cases hsl
        have d0 := (cell_of_heap (HB.out.block g' (by omega)) ⟨g', i * 2, none⟩ rfl).trans hc0
        have d1 := (cell_of_heap (HB.out.block g' (by omega)) ⟨g', i * 2 + 1, none⟩ rfl).trans hc1
        obtain ⟨a, ha⟩ : ∃ a, (C.getD i (0, 0)).1 = a := ⟨_, rfl⟩
        obtain ⟨b, hb⟩ : ∃ b, (C.getD i (0, 0)).2 = b := ⟨_, rfl⟩
        rw [ha] at d0
        rw [hb] at d1
        have hsN := HB.out.size
        have hI0 : (0 : Int) ≤ (i : Int) := by omega
        have hI1 : (i : Int) < (C.length : Int) := by omega
        have hbw : Below wr.heap.size wr ((wr.alloc (Obj.cells #[Value.int IntKind.i64 (a : Int), Value.int IntKind.i64 (b : Int)] 108)).alloc (Obj.cells #[Value.int IntKind.i64 (a : Int), Value.int IntKind.i64 (b : Int)] 48)) := ((Below.refl wr.heap.size wr).alloc (Nat.le_refl _) _).alloc (by simp) _
        have hnw : ∀ j y, [Value.int .i64 (a : Int), .int .i64 (b : Int)][j]? = some y → ((wr.alloc (Obj.cells #[Value.int IntKind.i64 (a : Int), Value.int IntKind.i64 (b : Int)] 108)).alloc (Obj.cells #[Value.int IntKind.i64 (a : Int), Value.int IntKind.i64 (b : Int)] 48)).cell? ((⟨wr.heap.size + 1, 0, none⟩ : Addr).add j) = some y := by
          have := cell_two_new (wr.alloc (Obj.cells #[Value.int IntKind.i64 (a : Int), Value.int IntKind.i64 (b : Int)] 108)) (.int .i64 (a : Int)) (.int .i64 (b : Int)) 48
          rw [World.size_alloc] at this; exact this
        have HBWr := Lib.hid hbw
        have HNW := Lib.hid hnw
        have HAB := Lib.hid (And.intro ha hb)
        clear hbw hnw hc0 hc1 ha hb
        gi_wp2_with (gi_at_builtin; refine wpListIn_append_own _ rfl _ _ 22 rfl N 48 i0 (.agg #[.int .i64 0, .int .i64 0]) 2 16 Tryd.underlying22 hi hz0 hz1 hz2 rfl (by decide) u13 i (pairsN (C.take i)) rfl ((HR.out.alloc _).alloc _) ⟨wr.heap.size + 1, 0, none⟩ 1 1 [.int .i64 (a : Int), .int .i64 (b : Int)] rfl rfl HNW.out (by simp [Value.oneCell']) (by unfold maxLen; omega) (by omega) (by simp; omega) ?_; intro v' w4 hown' hgrow _; obtain ⟨g4, cap4, rfl⟩ := ownsRow_succ hown'; obtain ⟨ha1, ha2, ha3, ha4⟩ := grown_same HR.out HBWr.out hgrow; have HO := Lib.hid hown'; have HA4 := Lib.hid ha4; clear hown' hgrow ha1 ha2 ha3 ha4)
        gi_roundg (C.length - (i + 1))
        case measure => omega
        case rel =>
          refine ⟨i + 1, by simp, by omega, by omega, HB.out.trans (HA4.out N (Nat.le_refl _) (by omega)), ?_⟩
          have e : C.take (i + 1) = C.take i ++ [(a, b)] := by
            have hCi : C[i] = (a, b) := by
              have e2 : C.getD i (0, 0) = C[i] := by simp [List.getD_eq_getElem?_getD, List.getElem?_eq_getElem hil]
              have h1 := HAB.out.1
              have h2 := HAB.out.2
              rw [e2] at h1 h2
              rw [← h1, ← h2]
            rw [List.take_succ_eq_append_getElem hil, hCi]
          rw [e, ← pairsN_snoc]
          exact HO.out
      · have : i = C.length := by omega
        subst this
        gi_wp2_with fail
        refine bodyPost_ret (v := .tuple #[u13, .int .i64 0]) (results_tmp2 (t := 6) (u := 7) rfl _ _ _) rfl ?_
        have e1 : chronX n l s = (C.map toS, 0) := by unfold chronX; rw [HGG.out]; show ((chronL _ _ _).1.map toS, _) = _; rw [HC.out]
        rw [e1]
        have hr := HR.out
        rw [List.take_length] at hr
        exact ⟨u13, rfl, resP_low (resP_pairs hr) (by omega), HB2.out.trans (HB.out.mono (by omega))⟩
end Go.Proofs.YtpbeaaihdmfnlaaDoor.H

/- ### Wt -/
namespace Go.Proofs.YtpbeaaihdmfnlaaDoor.H
open Go Go.RowKit Go.Shelf Go.Proofs.YtpbeaaihdmfnlaaDoor.M Go.Proofs.YtpbeaaihdmfnlaaDoor.G Go.Proofs.YtpbeaaihdmfnlaaDoorW.PrintWords
attribute [local go_sem] Oper.semAt_some wide_fn
attribute [local go_sem ↓ high] loadAt81 storeAt81
attribute [local go_sem] rowOk_drew cellsAt_drew run_loadRow run_storeRow
def forceOk (n : Nat) (near : Nat → Nat) (s : Nat) (e : S48) : Prop := 0 ≤ e.f0 ∧ e.f0 ≤ (n : Int) - 1 ∧ 0 ≤ e.f1 ∧ e.f1 ≤ (n : Int) - 1 ∧ s.testBit e.f0.toNat = true ∧ andNot (near e.f0.toNat) s = 2 ^ e.f1.toNat
instance (n : Nat) (near : Nat → Nat) (s : Nat) (e : S48) : Decidable (forceOk n near s e) := by unfold forceOk; exact inferInstance
/-- Whether pairs are a chronicle of a set. -/
def checkL (n : Nat) (near : Nat → Nat) : Nat → List S48 → Bool
  | _, [] => true
  | s, e :: l => if forceOk n near s e then checkL n near (s ||| 2 ^ e.f1.toNat) l else false
def checkX (n : Int) (l : List S48) (s : List Int) (ch : List S48) : Int := match bothM n l s with
  | none => 2
  | some (g, t) => if checkL g.n g.near t ch = true then 0 else 10
set_option maxHeartbeats 4000000 in
set_option maxRecDepth 100000 in
theorem check_any (n : Int) (A : Option Addr) (c : Nat) (l : List S48) (A2 : Option Addr) (c2 : Nat) (s : List Int) (A3 : Option Addr) (c3 : Nat) (ch : List S48) (w : World) (hl : Kd.C k48 w A l.length l) (hc : l.length ≤ c) (hlen : fitL l) (hn : inI n) (hs : Kd.C (Kd.int .i64) w A2 s.length s) (hc2 : s.length ≤ c2) (hlen2 : fitL s) (ht : Tab w) (hl3 : Kd.C k48 w A3 ch.length ch) (_ : ch.length ≤ c3) (hlen3 : fitL ch) : Calls Tryd.prog 38 #[.int .i64 n, .slice A l.length c, .slice A2 s.length c2, .slice A3 ch.length c3] w fun e w' => e = .returned (.int .i64 (checkX n l s ch)) ∧ Below w.heap.size w w' := by
  have HL3 := Lib.hid hl3
  unfold fitL at hlen3
  clear hl3
  have h1w : 1 < w.heap.size := (ht 0 (by decide)).2
  refine (callsIn_wide (n := 9)).1 ?_
  refine callsIn_of_wp Tryd.func38 rfl trivial ?_
  simp only [Tryd.ntmps38, List.size_toArray, List.length_cons, List.length_nil, Nat.reduceAdd, Nat.reduceSub, Array.replicate_succ, Array.replicate_zero, List.push_toArray, List.append_toArray, List.nil_append, List.cons_append]
  have HL := Lib.hid hl
  have HS := Lib.hid hs
  have HT := Lib.hid ht
  unfold fitL at hlen hlen2
  obtain ⟨hn1, hn2⟩ := hn
  clear hl hs ht
  gi_wp2_with fail
  refine (callsIn_wide.2 (both_any n A c l A2 c2 s _ HL.out hc hlen hn1 hn2 HS.out hc2 hlen2)).mono ?_
  rintro e w1 ⟨x, near, b, t, rfl, hg, hb1⟩
  have hsz := hb1.size
  obtain ⟨m0, m1, m2⟩ := lay1 w1 (.cells #[.int .i64 0, .int .u64 0, .int .u64 0, .int .u64 0, .int .u64 0, .int .u64 0, .int .u64 0, .int .u64 0, .int .u64 0, .int .u64 0, .int .u64 0, .int .u64 0, .int .u64 0] 81)
  obtain ⟨y1, y2, y3, y4⟩ := setRow_two (B := w1.heap.size) (cs := cellsI x near) m0 (Nat.le_refl _)
  rw [m1] at y3
  have bW2 := hb1.trans ((m2.trans y4).mono (B' := w.heap.size) (by omega))
  have hrf := rowFree_of m0 rfl
  have hag := aggOk_cells x near
  have hr1 := rowOk_any y1 rfl
  have hr2 := cellsAt_of y1
  have HG := Lib.hid hg
  have Y1 := Lib.hid y1
  have BW := Lib.hid bW2
  have HTW := Lib.hid (tab_below bW2 h1w HT.out)
  clear hb1 m0 m1 m2 y1 y2 y4 bW2 hg
  cases b with
  | false =>
    gi_wp2_with fail
    have hnn : bothM n l s = none := by
      rcases HG.out with ⟨h, _⟩ | ⟨g, _, h, _⟩
      · exact h
      · cases h
    refine bodyPost_ret (v := .int .i64 2) (results_tmp (t := 8) rfl _ _ _) rfl ?_
    unfold checkX; rw [hnn]
    exact ⟨rfl, BW.out⟩
  | true =>
    obtain ⟨g, hg, hcg, hlt⟩ : ∃ g, bothM n l s = some (g, t) ∧ cellsI x near = g.cells ∧ t < 2 ^ g.n := by
      rcases HG.out with ⟨_, h⟩ | ⟨g, h1, _, h2, h3⟩
      · cases h
      · exact ⟨g, h1, h2, h3⟩
    have hok : g.Ok := by
      unfold bothM at hg
      obtain ⟨g', h1, h2⟩ := Option.bind_eq_some_iff.1 hg
      obtain ⟨t', _, h4⟩ := Option.map_eq_some_iff.1 h2
      cases h4
      exact (graphM_ok h1).1
    have hle := hok.le
    have hpos := hok.pos
    have HGG := Lib.hid hg
    have HCG := Lib.hid hcg
    have HLT := Lib.hid hlt
    have HOK := Lib.hid hok
    clear hg hcg hlt hok
    gi_wp2_with fail
    obtain ⟨W, hW⟩ : ∃ W, W = ((w1.alloc (Obj.cells #[.int .i64 0, .int .u64 0, .int .u64 0, .int .u64 0, .int .u64 0, .int .u64 0, .int .u64 0, .int .u64 0, .int .u64 0, .int .u64 0, .int .u64 0, .int .u64 0, .int .u64 0] 81)).setRow w1.heap.size (cellsI x near)) := ⟨_, rfl⟩
    rw [← hW] at y3 Y1 BW HTW hr1 hr2
    have hnn : (g.n : Int) = n := by
      have hg := HGG.out
      unfold bothM at hg
      obtain ⟨g', h1, h2⟩ := Option.bind_eq_some_iff.1 hg
      obtain ⟨t', _, h4⟩ := Option.map_eq_some_iff.1 h2
      cases h4
      exact (graphM_ok h1).2
    have hp12 : 2 ^ g.n ≤ 4096 := Nat.pow_le_pow_right (by decide) hle
    obtain ⟨G8, hG8⟩ : ∃ G8, w1.heap.size = G8 := ⟨_, rfl⟩
    have hX : checkX n l s ch = if checkL g.n g.near t ch = true then 0 else 10 := by unfold checkX; rw [HGG.out]
    have HX := Lib.hid hX
    rw [HCG.out, hG8] at Y1
    rw [hG8] at y3
    rw [← hW]
    clear hW hX hr1 hr2 hrf hag
    rw [hG8]
    gi_loopg [10, 26] ch.length (fun k s10 s26 W2 => ∃ i s' : Nat, s10 = .int .u64 (s' : Int) ∧ s26 = .int .i64 (i : Int) ∧ i ≤ ch.length ∧ ch.length ≤ k + i ∧ s' < 2 ^ g.n ∧ Below W.heap.size W W2 ∧ checkL g.n g.near t ch = checkL g.n g.near s' (ch.drop i))
    case atStart => exact ⟨0, t, rfl, rfl, by omega, by omega, HLT.out, Below.refl _ _, rfl⟩
    case round =>
      obtain ⟨i, s', rfl, rfl, hi2, hk, hs', hB, hch⟩ := hrel
      have HB := Lib.hid hB
      have HCH := Lib.hid hch
      have HS' := Lib.hid hs'
      have hs12 : s' < 4096 := by omega
      clear hB hch hs'
      have hbw := BW.out.trans (HB.out.mono (B' := w.heap.size) (by omega))
      have HBW := Lib.hid hbw
      by_cases hil : i < ch.length
      · obtain ⟨ad, rfl, c0, c1⟩ := pair_at (Kd.C_below HL3.out hbw) i hil rfl
        obtain ⟨e0, he0⟩ : ∃ e0, (ch.getD i z48).f0 = e0 := ⟨_, rfl⟩
        obtain ⟨e1, he1⟩ : ∃ e1, (ch.getD i z48).f1 = e1 := ⟨_, rfl⟩
        rw [he0] at c0
        rw [he1] at c1
        have hdr : ch.drop i = ch.getD i z48 :: ch.drop (i + 1) := by
          rw [List.drop_eq_getElem_cons hil]; simp [List.getD_eq_getElem?_getD, List.getElem?_eq_getElem hil]
        have hstep : checkL g.n g.near t ch = if (0 ≤ e0 ∧ e0 ≤ (g.n : Int) - 1 ∧ 0 ≤ e1 ∧ e1 ≤ (g.n : Int) - 1 ∧ s'.testBit e0.toNat = true ∧ andNot (g.near e0.toNat) s' = 2 ^ e1.toNat) then checkL g.n g.near (s' ||| 2 ^ e1.toNat) (ch.drop (i + 1)) else false := by
          rw [HCH.out, hdr, checkL]
          simp only [forceOk, he0, he1]
        have HST := Lib.hid hstep
        have hbad : ¬(0 ≤ e0 ∧ e0 ≤ (g.n : Int) - 1 ∧ 0 ≤ e1 ∧ e1 ≤ (g.n : Int) - 1 ∧ s'.testBit e0.toNat = true ∧ andNot (g.near e0.toNat) s' = 2 ^ e1.toNat) → checkL g.n g.near t ch = false := fun h => by rw [hstep, if_neg h]
        have HBAD := Lib.hid hbad
        clear hbad
        clear hbw hdr hstep he0 he1
        have hG0 := HB.out.block G8 (by omega)
        have HG8 := Lib.hid (hG0.trans Y1.out)
        clear hG0
        gi_wp2_with fail
        obtain ⟨n0, n1, n2⟩ := lay1 wr (.cells #[.int .i64 e0, .int .i64 e1] 48)
        have hwrs := HB.out.size
        have g0 := (n2.block G8 (by omega)).trans HG8.out
        have hB2 := HB.out.trans (n2.mono (B' := W.heap.size) hwrs)
        have bW2 := HBW.out.trans (n2.mono (B' := w.heap.size) (by have := HBW.out.size; omega))
        obtain ⟨b8, hb8⟩ : ∃ b8, wr.heap.size = b8 := ⟨_, rfl⟩
        generalize hW1 : wr.alloc (Obj.cells #[Value.int IntKind.i64 e0, Value.int IntKind.i64 e1] 48) = W1 at n0 n1 n2 g0 bW2 hB2 ⊢
        clear hW1
        rw [hb8] at n0 n1 ⊢
        obtain ⟨d0, d1⟩ := two_cell n0
        have G0 := Lib.hid g0
        have BW2 := Lib.hid bW2
        have HB2 := Lib.hid hB2
        have hn12 : n ≤ 12 := by omega
        have hnp : 1 ≤ n := by omega
        clear c0 c1 g0 n0 n2 bW2 hB2
        by_cases p0 : 0 ≤ e0 ∧ e0 ≤ n - 1
        · have P0 : decide (0 ≤ e0 ∧ e0 ≤ n - 1) = true := by simpa using p0
          by_cases p1 : 0 ≤ e1 ∧ e1 ≤ n - 1
          · have P1 : decide (0 ≤ e1 ∧ e1 ≤ n - 1) = true := by simpa using p1
            obtain ⟨a, rfl⟩ : ∃ a : Nat, e0 = a := ⟨e0.toNat, by omega⟩
            obtain ⟨b, rfl⟩ : ∃ b : Nat, e1 = b := ⟨e1.toNat, by omega⟩
            have ha12 : a < 12 := by omega
            have hb12 : b < 12 := by omega
            have ha0 : (0 : Int) ≤ (a : Int) := by omega
            have hb0 : (0 : Int) ≤ (b : Int) := by omega
            have ha1 : (a : Int) < 12 := by omega
            have hb1 : (b : Int) < 12 := by omega
            have HA64 : a < 64 := by omega
            have na := near_cell g G0.out a ha12
            have HSM : Hid _ := Lib.hid (show s' < 2 ^ 64 by omega)
            have hnx' : g.near a < 2 ^ 64 := Nat.lt_of_lt_of_le (HOK.out.near a) (Nat.pow_le_pow_right (by decide) (by omega))
            have HAN := Lib.hid (M.nu_andNot (g.near a) s' hnx')
            have HSH := Lib.hid (M.u64_shl_one b (by omega))
            clear hnx'
            cases P2 : s'.testBit a with
            | false =>
              refine quiet_plain rfl (by kernel_rfl) (by kernel_rfl) ?_
              repeat (gi_big_quiet_step (first | (with_reducible exact CallsIn.quiet_of_same (callsIn_wide.2 (within_val (a : Int) 0 (n - 1) _ P0 _))) | (with_reducible exact CallsIn.quiet_of_same (callsIn_wide.2 (within_val (b : Int) 0 (n - 1) _ P1 _))) | (with_reducible exact CallsIn.quiet_of_same (callsIn_wide.2 (has_val s' a _ P2 HSM.out HA64 _)))))
              refine wpQuietIn_nil ?_
              rintro _ ⟨nq, rfl⟩
              gi_wp2_with fail
              refine bodyPost_ret (v := .int .i64 10) (results_tmp (t := 8) rfl _ _ _) rfl ⟨?_, BW2.out.trans ⟨rfl, rfl, rfl, Nat.le_refl _, fun _ _ => rfl⟩⟩
              rw [HX.out, HBAD.out (by rintro ⟨_, _, _, _, h, _⟩; simp [P2] at h)]
              rfl
            | true =>
              by_cases p3 : andNot (g.near a) s' = 2 ^ b
              · have hee : (bits .andNot .u64 (g.near a : Nat) (s' : Nat) == IntKind.u64.wrap (2 ^ b)) = true := by rw [HAN.out, HSH.out, p3]; simp
                have HP3 := Lib.hid p3
                clear p3
                refine quiet_plain rfl (by kernel_rfl) (by kernel_rfl) ?_
                repeat (gi_big_quiet_step (first | (with_reducible exact CallsIn.quiet_of_same (callsIn_wide.2 (within_val (a : Int) 0 (n - 1) _ P0 _))) | (with_reducible exact CallsIn.quiet_of_same (callsIn_wide.2 (within_val (b : Int) 0 (n - 1) _ P1 _))) | (with_reducible exact CallsIn.quiet_of_same (callsIn_wide.2 (has_val s' a _ P2 HSM.out HA64 _)))))
                refine wpQuietIn_nil ?_
                rintro _ ⟨nq, rfl⟩
                gi_wp2_with fail
                rw [HSH.out, M.nu_or s' (2 ^ b) (by omega) (Nat.pow_lt_pow_right (by decide) (by omega))]
                gi_roundg (ch.length - (i + 1))
                case measure => omega
                case rel =>
                  refine ⟨i + 1, s' ||| 2 ^ b, rfl, rfl, by omega, by omega, Nat.or_lt_two_pow HS'.out (Nat.pow_lt_pow_right (by decide) (by omega)), HB2.out.trans ⟨rfl, rfl, rfl, Nat.le_refl _, fun _ _ => rfl⟩, ?_⟩
                  rw [HST.out, if_pos ⟨by omega, by omega, by omega, by omega, by simpa using P2, by simpa using HP3.out⟩]
                  simp
              · have hee : (bits .andNot .u64 (g.near a : Nat) (s' : Nat) == IntKind.u64.wrap (2 ^ b)) = false := by rw [HAN.out, HSH.out]; exact int_inj_ne p3
                have HP3 := Lib.hid p3
                clear p3
                refine quiet_plain rfl (by kernel_rfl) (by kernel_rfl) ?_
                repeat (gi_big_quiet_step (first | (with_reducible exact CallsIn.quiet_of_same (callsIn_wide.2 (within_val (a : Int) 0 (n - 1) _ P0 _))) | (with_reducible exact CallsIn.quiet_of_same (callsIn_wide.2 (within_val (b : Int) 0 (n - 1) _ P1 _))) | (with_reducible exact CallsIn.quiet_of_same (callsIn_wide.2 (has_val s' a _ P2 HSM.out HA64 _)))))
                refine wpQuietIn_nil ?_
                rintro _ ⟨nq, rfl⟩
                gi_wp2_with fail
                refine bodyPost_ret (v := .int .i64 10) (results_tmp (t := 8) rfl _ _ _) rfl ⟨?_, BW2.out.trans ⟨rfl, rfl, rfl, Nat.le_refl _, fun _ _ => rfl⟩⟩
                rw [HX.out, HBAD.out (by rintro ⟨_, _, _, _, _, h⟩; exact HP3.out (by simpa using h))]
                rfl
          · have P1 : decide (0 ≤ e1 ∧ e1 ≤ n - 1) = false := by simpa using p1
            refine quiet_plain rfl (by kernel_rfl) (by kernel_rfl) ?_
            repeat (gi_big_quiet_step (first | (with_reducible exact CallsIn.quiet_of_same (callsIn_wide.2 (within_val e0 0 (n - 1) _ P0 _))) | (with_reducible exact CallsIn.quiet_of_same (callsIn_wide.2 (within_val e1 0 (n - 1) _ P1 _)))))
            refine wpQuietIn_nil ?_
            rintro _ ⟨nq, rfl⟩
            gi_wp2_with fail
            refine bodyPost_ret (v := .int .i64 10) (results_tmp (t := 8) rfl _ _ _) rfl ⟨?_, BW2.out.trans ⟨rfl, rfl, rfl, Nat.le_refl _, fun _ _ => rfl⟩⟩
            rw [HX.out, HBAD.out (by rintro ⟨_, _, _, _, _, _⟩; omega)]
            rfl
        · have P0 : decide (0 ≤ e0 ∧ e0 ≤ n - 1) = false := by simpa using p0
          refine quiet_plain rfl (by kernel_rfl) (by kernel_rfl) ?_
          repeat (gi_big_quiet_step (first | (with_reducible exact CallsIn.quiet_of_same (callsIn_wide.2 (within_val e0 0 (n - 1) _ P0 _)))))
          refine wpQuietIn_nil ?_
          rintro _ ⟨nq, rfl⟩
          gi_wp2_with fail
          refine bodyPost_ret (v := .int .i64 10) (results_tmp (t := 8) rfl _ _ _) rfl ⟨?_, BW2.out.trans ⟨rfl, rfl, rfl, Nat.le_refl _, fun _ _ => rfl⟩⟩
          rw [HX.out, HBAD.out (by rintro ⟨_, _, _, _, _, _⟩; omega)]
          rfl
      · have : i = ch.length := by omega
        subst this
        gi_wp2_with fail
        refine bodyPost_ret (v := .int .i64 0) (results_tmp (t := 8) rfl _ _ _) rfl ⟨?_, HBW.out⟩
        rw [HX.out, HCH.out, List.drop_length, checkL]; rfl
end Go.Proofs.YtpbeaaihdmfnlaaDoor.H

/- ### Wu -/
namespace Go.Proofs.YtpbeaaihdmfnlaaDoor.H
open Go Go.RowKit Go.Shelf Go.Proofs.YtpbeaaihdmfnlaaDoor.M Go.Proofs.YtpbeaaihdmfnlaaDoor.G Go.Proofs.YtpbeaaihdmfnlaaDoorW.PrintWords
attribute [local go_sem] Oper.semAt_some wide_fn
theorem wpListIn_make_full {F : Fence} {m : Nat} {P : Program} (w : World) {ops : Array Oper} {rest : List Oper} {o : Oper} {a : Act} {Q : Exit → Act → World → Prop}
    (hg : o.guard = none) (l c : Operand) (t : TypeId) (hop : o.op = Op.makeSlice t l c)
    (base : Nat) (e : TypeId) (i : TypeInfo) (z : Value) (size : Nat) (h1 : P.underlying t = some (.slice e)) (h2 : P.info? e = some i) (h3 : i.zero = some z) (h4 : i.size = size)
    (kl kc : IntKind) (L C : Int) (n : Nat) (hl : a.eval l = .int kl L) (hc : a.eval c = .int kc C) (hL : L = (n : Int)) (hC : C = (n : Int)) (b2 : i.bytes * n ≤ 281474976710656) (b3 : n ≤ maxLen) (b4 : base ≤ w.heap.size)
    (hK : ∀ w', w'.ownsRow base e size (.slice (some ⟨w.heap.size, 0, none⟩) n n) n (madeCells z.cells (n * size)).toList → w.grownBy w' none → wpListIn F m P ops Q rest (a.put o.dst (.slice (some ⟨w.heap.size, 0, none⟩) n n)) w') :
    wpListIn F m P ops Q (o :: rest) a w := by
  refine wpListIn_plain hg fun K' hK' => ?_
  obtain ⟨w', hrun, r1, r2⟩ := run_make_full (P := P) w base t e i z size h1 h2 h3 h4 kl kc n b2 b3 b4
  subst hL
  subst hC
  unfold Oper.wpIn
  refine ⟨by simp [Oper.about, hop], ?_⟩
  rw [Oper.semAt_plain F _ _ (by rw [hop]; intro c hc'; cases hc')]
  simp [execOp, hop, hl, hc, hrun, Result.andThen]
  exact hK' _ _ (hK w' r1 r2)
/-- The neighbors of each place, edge after edge. -/
def nearOf (l : List S48) : Nat → Nat := l.foldl (fun near e => addE near e.f0.toNat e.f1.toNat) (fun _ => 0)
def edgesOk (n : Nat) (l : List S48) : Prop := ∀ e ∈ l, 0 ≤ e.f0 ∧ e.f0 < e.f1 ∧ e.f1 < n
theorem nearOf_snoc (l : List S48) (e : S48) : nearOf (l ++ [e]) = addE (nearOf l) e.f0.toNat e.f1.toNat := by simp [nearOf, List.foldl_append]
theorem nearOf_lt {n : Nat} (l : List S48) (h : edgesOk n l) : ∀ v, nearOf l v < 2 ^ n := by
  suffices H : ∀ (l : List S48) (near : Nat → Nat), edgesOk n l → (∀ v, near v < 2 ^ n) → ∀ v, (l.foldl (fun near e => addE near e.f0.toNat e.f1.toNat) near) v < 2 ^ n from H l _ h (fun _ => Nat.two_pow_pos _)
  intro l
  induction l with
  | nil => intro near _ h; exact h
  | cons e l ih =>
    intro near hl hn
    simp only [List.foldl_cons]
    have he := hl e List.mem_cons_self
    exact ih _ (fun x hx => hl x (List.mem_cons_of_mem _ hx)) (addE_lt hn (by omega) (by omega))
theorem addR_facts {W W' : World} {G B n : Nat} {near : Nat → Nat} {a b : Nat} (hB : B ≤ G) (h1 : W.heap[G]? = some (.cells (roundsA n (fun v => (near v : Int))) 3)) (ha : a < 12) (hb : b < 12) (hne : ¬ a = b) (hn : ∀ v, near v < 2 ^ 12)
    (hh : W'.heap = ((W.setCell ⟨G, a, none⟩ (.int .i64 (bits .or .i64 (near a : Nat) (wrap64 (2 ^ b))))).setCell ⟨G, b, none⟩ (.int .i64 (bits .or .i64 (near b : Nat) (wrap64 (2 ^ a))))).heap)
    (ho : W'.os = W.os) (ht : W'.tape = W.tape) (hp : W'.output = W.output) :
    W'.heap[G]? = some (.cells (roundsA n (fun v => (addE near a b v : Int))) 3) ∧ Below B W W' := by
  have p1 : near a < 2 ^ 63 := Nat.lt_of_lt_of_le (hn a) (by decide)
  have p2 : near b < 2 ^ 63 := Nat.lt_of_lt_of_le (hn b) (by decide)
  have w1 : wrap64 ((2 : Int) ^ b) = ((2 ^ b : Nat) : Int) := by rw [← Go.IntWalk.i64_left]; exact M.i64_shl_one b (by omega)
  have w2 : wrap64 ((2 : Int) ^ a) = ((2 ^ a : Nat) : Int) := by rw [← Go.IntWalk.i64_left]; exact M.i64_shl_one a (by omega)
  rw [w1, w2, M.ni_or _ _ p1 (Nat.pow_lt_pow_right (by decide) (by omega)), M.ni_or _ _ p2 (Nat.pow_lt_pow_right (by decide) (by omega))] at hh
  refine ⟨?_, ho, ht, hp, by rw [hh, size_setCell, size_setCell]; exact Nat.le_refl _, fun k hk => ?_⟩
  · rw [hh, roundsA_store (roundsA_store h1 _ a) _ b]
    congr 3
    funext v
    unfold addE
    by_cases h2 : v = b
    · subst h2; simp [show ¬ v = a from fun e => hne e.symm]
    · by_cases h3 : v = a
      · subst h3; simp [h2]
      · simp [h2, h3]
  · rw [hh]
    have hk1 : k ≠ (⟨G, b, none⟩ : Addr).block := by show k ≠ G; omega
    have hk2 : k ≠ (⟨G, a, none⟩ : Addr).block := by show k ≠ G; omega
    exact (Below.heap_setCell _ ⟨G, b, none⟩ _ k hk1).trans (Below.heap_setCell W ⟨G, a, none⟩ _ k hk2)
set_option maxHeartbeats 4000000 in
set_option maxRecDepth 100000 in
theorem near_any (n : Nat) (hn1 : 1 ≤ n) (hn2 : n ≤ 12) (A : Option Addr) (c : Nat) (l : List S48) (w : World) (hl : Kd.C k48 w A l.length l) (_ : l.length ≤ c) (hlen : fitL l) (hok : edgesOk n l) :
    Calls Tryd.prog 22 #[.int .i64 n, .slice A l.length c] w fun e w' => ∃ v, e = .returned v ∧ ResL w' w.heap.size v ((List.range n).map fun v => (nearOf l v : Int)) ∧ Below w.heap.size w w' := by
  refine (callsIn_wide (n := 9)).1 ?_
  refine callsIn_of_wp Tryd.func22 rfl trivial ?_
  simp only [Tryd.ntmps22, List.size_toArray, List.length_cons, List.length_nil, Nat.reduceAdd, Nat.reduceSub, Array.replicate_succ, Array.replicate_zero, List.push_toArray, List.append_toArray, List.nil_append, List.cons_append]
  have HL := Lib.hid hl
  have HOK := Lib.hid hok
  unfold fitL at hlen
  obtain ⟨i0, hi, hz0, hz1, hz2⟩ := info_parts info3
  clear hl hok
  gi_wp2_with (refine wpListIn_make_full _ rfl _ _ 24 rfl w.heap.size 3 i0 (.int .i64 0) 1 Tryd.underlying24 hi hz0 hz1 .i64 .i64 _ _ n rfl rfl rfl rfl (by rw [hz2]; omega) (by unfold maxLen; omega) (Nat.le_refl _) ?_; intro w2 hown hgr; have HG := Lib.hid (made_row hown); have HB2 := Lib.hid (show Below w.heap.size w w2 from ⟨hgr.os, hgr.tape, hgr.output, hgr.size, fun k hk => hgr.block k hk (by simp)⟩); clear hown hgr)
  have hG0 := HG.out
  rw [roundsA_const] at hG0
  have hb2 := (Array.getElem?_eq_some_iff.1 hG0).1
  gi_loopg [6] l.length (fun k s6 W => ∃ i : Nat, s6 = .int .i64 (i : Int) ∧ i ≤ l.length ∧ l.length ≤ k + i ∧ Below w.heap.size w W ∧ W.heap[w.heap.size]? = some (.cells (roundsA n (fun v => (nearOf (l.take i) v : Int))) 3))
  case atStart => exact ⟨0, rfl, by omega, by omega, HB2.out, hG0⟩
  case round =>
    obtain ⟨i, rfl, hi2, hk, hB, hrow⟩ := hrel
    have HB := Lib.hid hB
    have HR := Lib.hid hrow
    clear hB hG0
    by_cases hil : i < l.length
    · obtain ⟨ad, rfl, c0, c1⟩ := pair_at (Kd.C_below HL.out HB.out) i hil rfl
      have hem : l[i] ∈ l := List.getElem_mem hil
      have hgd : l.getD i z48 = l[i] := by simp [List.getD_eq_getElem?_getD, List.getElem?_eq_getElem hil]
      have hoke := HOK.out _ hem
      rw [hgd] at c0 c1
      obtain ⟨e0, he0⟩ : ∃ e0, l[i].f0 = e0 := ⟨_, rfl⟩
      obtain ⟨e1, he1⟩ : ∃ e1, l[i].f1 = e1 := ⟨_, rfl⟩
      rw [he0] at c0 hoke
      rw [he1] at c1 hoke
      obtain ⟨a, rfl⟩ : ∃ a : Nat, e0 = a := ⟨e0.toNat, by omega⟩
      obtain ⟨b, rfl⟩ : ∃ b : Nat, e1 = b := ⟨e1.toNat, by omega⟩
      have han : a < n := by omega
      have hbn : b < n := by omega
      have ra := roundsA_cell hrow a han
      have rb := roundsA_cell hrow b hbn
      have fa : wr.frozen? ⟨w.heap.size, a, none⟩ = false := one_frozen hrow a
      have fb : wr.frozen? ⟨w.heap.size, b, none⟩ = false := one_frozen hrow b
      have hab : ¬ a = b := by omega
      have hba : ¬ b = a := by omega
      have ha0 : (0 : Int) ≤ (a : Int) := by omega
      have hb0 : (0 : Int) ≤ (b : Int) := by omega
      have ha1 : (a : Int) < (n : Int) := by omega
      have hb1 : (b : Int) < (n : Int) := by omega
      have ha6 : (a : Int) ≤ 64 := by omega
      have hb6 : (b : Int) ≤ 64 := by omega
      have HE := Lib.hid (And.intro he0 he1)
      have HGD := Lib.hid hgd
      clear hrow hem hgd he0 he1 hoke
      have hmx : Tryd.prog.follows .mixedOrders = true := by kernel_rfl
      have HNL := Lib.hid (show ∀ v, nearOf (l.take i) v < 2 ^ 12 from fun v => Nat.lt_of_lt_of_le (nearOf_lt (n := n) _ (fun x hx => HOK.out x (List.mem_of_mem_take hx)) v) (Nat.pow_le_pow_right (by decide) hn2))
      gi_wp2_with fail
      refine quiet_plain rfl (by kernel_rfl) (by kernel_rfl) ?_
      repeat (gi_big_quiet_step (fail))
      refine wpQuietIn_nil ?_
      rintro _ ⟨nq, rfl⟩
      gi_wp2_with fail
      gi_region_with_o (fail)
      all_goals gi_wp2_with fail
      all_goals gi_region_with_o (fail)
      all_goals gi_wp2_with fail
      all_goals gi_roundg (l.length - (i + 1))
      all_goals first
        | omega
        | (have e : nearOf (l.take (i + 1)) = addE (nearOf (l.take i)) a b := by
             rw [List.take_succ_eq_append_getElem hil, nearOf_snoc, HE.out.1, HE.out.2]; rfl
           refine ⟨i + 1, by simp, by omega, by omega, HB.out.trans ?_, ?_⟩
           · exact (addR_facts (W := wr) (n := n) (near := nearOf (l.take i)) (B := w.heap.size) (G := w.heap.size) (Nat.le_refl _) HR.out (by omega) (by omega) hab HNL.out (by exact rfl) (by exact rfl) (by exact rfl) (by exact rfl)).2
           · rw [e]; exact (addR_facts (W := wr) (n := n) (near := nearOf (l.take i)) (B := w.heap.size) (G := w.heap.size) (Nat.le_refl _) HR.out (by omega) (by omega) hab HNL.out (by exact rfl) (by exact rfl) (by exact rfl) (by exact rfl)).1)
    · have : i = l.length := by omega
      subst this
      gi_wp2_with fail
      refine bodyPost_ret (v := .slice (some ⟨w.heap.size, 0, none⟩) n n) (results_tmp (t := 4) rfl _ _ _) rfl ⟨_, rfl, ?_, HB.out⟩
      have hr := HR.out
      rw [List.take_length] at hr
      exact resL_rounds hr (Nat.le_refl _) (by unfold maxLen; omega)
end Go.Proofs.YtpbeaaihdmfnlaaDoor.H

/- ### Gx1 -/
namespace Go.Proofs.YtpbeaaihdmfnlaaDoor.G
open Go.RowKit Go.Proofs.YtpbeaaihdmfnlaaDoorW.PrintWords Go.Proofs.YtpbeaaihdmfnlaaDoorW.PrintLast Go.Proofs.YtpbeaaihdmfnlaaDoorW.PrintMore
attribute [local go_sem] max2_int min2_int max_two min_two max_three min_three max_four min_four   -- for this text's walks alone
set_option linter.unusedVariables false
set_option linter.unusedSimpArgs false
theorem eqA48 (d : Nat) (w : World) (x0 y0 : Int) (x1 y1 : Int) :
    (Op.equalIn (d + 2) 48 (.agg #[.int .i64 x0, .int .i64 x1]) (.agg #[.int .i64 y0, .int .i64 y1])).run Tryd.prog w = .ok (x0 == y0 && (x1 == y1)) w :=
  ArrEq.eqArr2 w d Tryd.underlying48 Tryd.underlying3 (by kernel_rfl) (by kernel_rfl) x0 y0 x1 y1
end Go.Proofs.YtpbeaaihdmfnlaaDoor.G

/- ### Gx9 -/
namespace Go.Proofs.YtpbeaaihdmfnlaaDoor.G
open Go.RowKit Go.Proofs.YtpbeaaihdmfnlaaDoorW.PrintWords Go.Proofs.YtpbeaaihdmfnlaaDoorW.PrintLast Go.Proofs.YtpbeaaihdmfnlaaDoorW.PrintMore
attribute [local go_sem] max2_int min2_int max_two min_two max_three min_three max_four min_four   -- for this text's walks alone
set_option linter.unusedVariables false
set_option linter.unusedSimpArgs false
attribute [local go_sem high] eqA48
def numnahlaw06_mod.f (a0 : Int) (a1 : Int) : Option (Int) := if (IntKind.u64.wrap (a1)) = 0 then (none) else (some (wrap64 (Int.tmod (IntKind.u64.wrap (a0)) (IntKind.u64.wrap (a1)))))
set_option maxHeartbeats 8000000 in
set_option maxRecDepth 100000 in
theorem numnahlaw06_mod.calls (a0 : Int) (a1 : Int) (r : Int) (w : World) (h : numnahlaw06_mod.f a0 a1 = some r) :
    Calls Tryd.prog 33 #[.int .i64 a0, .int .i64 a1] w fun e w' => e = .returned (.int .i64 r) ∧ Drawn0 w w' := by
  have H : (if (IntKind.u64.wrap (a1)) = 0 then (none) else (some (wrap64 (Int.tmod (IntKind.u64.wrap (a0)) (IntKind.u64.wrap (a1)))))) = some r := h
  clear h
  by_cases c3 : (IntKind.u64.wrap (a1)) = 0
  · rw [if_pos c3] at H
    exact absurd H (by simp)
  · rw [if_neg c3] at H
    have c3b0 : ((IntKind.u64.wrap (a1)) == 0) = false := beq_eq_false_iff_ne.mpr c3
    have c3b1 : ((IntKind.u64.wrap (a1)) != 0) = true := bne_iff_ne.mpr c3
    obtain rfl := Option.some.inj H
    go_enter Tryd.func33, Tryd.ntmps33
    go_wp2
    go_ret
    exact ⟨by first | rfl | (simp; done) | (simp [*]; done), by repeat (first | exact Drawn0.refl _ | apply Drawn0.step)⟩
mutual
def numnahlaw06_tame.l0 : Nat → Int → List (S48) → List (S48) → Int → Option (Int × (List (S48)))
  | 0, _, _, _, _ => none
  | k + 1, x0, x1, x6, x7 => if x7 < (x1.length : Int) then (if 0 ≤ x7 then ((numnahlaw06_mod.f ((rd_T48 x1 x7).f0) x0).bind fun t226 => ((numnahlaw06_mod.f ((rd_T48 x1 x7).f1) x0).bind fun t228 => (numnahlaw06_tame.l1 k x0 x1 x6 x7 (t226 == t228) 0 (mn t226 t228) (mx t226 t228)))) else (none)) else (some (x0, x6))
def numnahlaw06_tame.l1 : Nat → Int → List (S48) → List (S48) → Int → Bool → Int → Int → Int → Option (Int × (List (S48)))
  | 0, _, _, _, _, _, _, _, _ => none
  | k + 1, x0, x1, x6, x7, x11, x12, x230000, x230001 => if x12 < (x6.length : Int) then (if x11 = true then (numnahlaw06_tame.l1 k x0 x1 x6 x7 true (wrap64 (x12 + 1)) x230000 x230001) else (if 0 ≤ x12 then (numnahlaw06_tame.l1 k x0 x1 x6 x7 (((rd_T48 x6 x12).f0) == x230000 && (((rd_T48 x6 x12).f1) == x230001)) (wrap64 (x12 + 1)) x230000 x230001) else (none))) else (if x11 = true then (numnahlaw06_tame.l0 k x0 x1 x6 (wrap64 (x7 + 1))) else (if x6.length < 8796093022208 then (numnahlaw06_tame.l0 k x0 x1 (x6 ++ [(⟨x230000, x230001⟩ : S48)]) (wrap64 (x7 + 1))) else (none)))
end
def numnahlaw06_tame.f (k : Nat) (a0 : Int) (l1 : List (S48)) : Option (Int × (List (S48))) := (numnahlaw06_mod.f a0 12).bind fun t224 => (numnahlaw06_tame.l0 k (wrap64 (1 + t224)) l1 ([] : List (S48)) 0)
theorem numnahlaw06_tame.mono_l : ∀ k, (∀ y0 y1 y2 y3, LeO (numnahlaw06_tame.l0 k y0 y1 y2 y3) (numnahlaw06_tame.l0 (k + 1) y0 y1 y2 y3)) ∧ (∀ y0 y1 y2 y3 y4 y5 y6 y7, LeO (numnahlaw06_tame.l1 k y0 y1 y2 y3 y4 y5 y6 y7) (numnahlaw06_tame.l1 (k + 1) y0 y1 y2 y3 y4 y5 y6 y7))
  | 0 => ⟨fun _ _ _ _ r h => by simp [numnahlaw06_tame.l0] at h, fun _ _ _ _ _ _ _ _ r h => by simp [numnahlaw06_tame.l1] at h⟩
  | k + 1 => by
    obtain ⟨ih0, ih1⟩ := numnahlaw06_tame.mono_l k
    refine ⟨?_, ?_⟩
    · intro y0 y1 y2 y3
      unfold numnahlaw06_tame.l0
      repeat' first
      | (with_reducible exact ih0 _ _ _ _)
      | (with_reducible exact ih1 _ _ _ _ _ _ _ _)
      | (with_reducible exact LeO.refl _)
      | (with_reducible exact LeO.none _)
      | (with_reducible refine LeO.ite ?_ ?_)
      | (with_reducible refine LeO.bind ?_ (fun _ => ?_))
      | exact ih0 _ _ _ _
      | exact ih1 _ _ _ _ _ _ _ _
      | exact LeO.none _
      | refine LeO.ite ?_ ?_
      | refine LeO.bind ?_ (fun _ => ?_)
    · intro y0 y1 y2 y3 y4 y5 y6 y7
      unfold numnahlaw06_tame.l1
      repeat' first
      | (with_reducible exact ih0 _ _ _ _)
      | (with_reducible exact ih1 _ _ _ _ _ _ _ _)
      | (with_reducible exact LeO.refl _)
      | (with_reducible exact LeO.none _)
      | (with_reducible refine LeO.ite ?_ ?_)
      | (with_reducible refine LeO.bind ?_ (fun _ => ?_))
      | exact ih0 _ _ _ _
      | exact ih1 _ _ _ _ _ _ _ _
      | exact LeO.none _
      | refine LeO.ite ?_ ?_
      | refine LeO.bind ?_ (fun _ => ?_)
theorem numnahlaw06_tame.mono : ∀ a0 a1 k, LeO (numnahlaw06_tame.f k a0 a1) (numnahlaw06_tame.f (k + 1) a0 a1) := by
  intro a0 a1 k
  obtain ⟨ih0, ih1⟩ := numnahlaw06_tame.mono_l k
  unfold numnahlaw06_tame.f
  repeat' first
      | (with_reducible exact ih0 _ _ _ _)
      | (with_reducible exact ih1 _ _ _ _ _ _ _ _)
      | (with_reducible exact LeO.refl _)
      | (with_reducible exact LeO.none _)
      | (with_reducible refine LeO.ite ?_ ?_)
      | (with_reducible refine LeO.bind ?_ (fun _ => ?_))
      | exact ih0 _ _ _ _
      | exact ih1 _ _ _ _ _ _ _ _
      | exact LeO.none _
      | refine LeO.ite ?_ ?_
      | refine LeO.bind ?_ (fun _ => ?_)
set_option maxHeartbeats 8000000 in
set_option maxRecDepth 100000 in
theorem numnahlaw06_tame.calls (k : Nat) (a0 : Int) (A1 : Option Addr) (c1 : Nat) (l1 : List (S48)) (r1 : Int) (r2 : List (S48)) (w : World) (hr1 : Kd.C k48 w A1 l1.length l1) (hc1 : l1.length ≤ c1) (h : numnahlaw06_tame.f k a0 l1 = some (r1, r2)) :
    Calls Tryd.prog 27 #[.int .i64 a0, .slice A1 l1.length c1] w fun e w' => ∃ v1_ : Value, e = .returned (.tuple #[.int .i64 r1, v1_]) ∧ Kd.R k48 48 w' w.heap.size (fun _ => True) v1_ r2 ∧ Below w.heap.size w w' := by
  have hu48 := Tryd.underlying48
  have HR1 := Aside0.mk hr1
  have HC1 := Aside0.mk hc1
  clear hr1 hc1
  have HB := Aside0.mk (Below.refl w.heap.size w)
  have H : ((numnahlaw06_mod.f a0 12).bind fun t224 => (numnahlaw06_tame.l0 k (wrap64 (1 + t224)) l1 ([] : List (S48)) 0)) = some (r1, r2) := h
  clear h
  replace H := Option.bind_eq_some_iff.mp H
  obtain ⟨t224, A30, H⟩ := H
  replace H : (numnahlaw06_tame.l0 k (wrap64 (1 + t224)) l1 ([] : List (S48)) 0) = some (r1, r2) := H
  have A3 := Aside0.mk A30
  clear A30
  have H' := Aside0.mk H
  clear H
  go_enter Tryd.func27, Tryd.ntmps27
  go_wp2_with (first | (go_at_call 33; (with_reducible refine (numnahlaw06_mod.calls a0 12 t224 _ A3.out).mono ?_); rintro e w' ⟨rfl, ⟨nd, rfl⟩⟩; (try first | exact ⟨rfl, _, World.drewN_drewN _ _ _⟩ | exact ⟨rfl, _, Eq.trans (World.drewN_drewN _ _ _) (congrArg (World.drewN _) (Nat.add_assoc _ _ _))⟩)))
  go_loopg [6, 7] k (fun kq v6 v7 w' => ∃ (x6_1 : List (S48)) (x7_1 : Int), v7 = .int .i64 x7_1 ∧ Aside0 (numnahlaw06_tame.l0 kq (wrap64 (1 + t224)) l1 x6_1 x7_1 = some (r1, r2)) ∧ Aside0 (kq ≤ k) ∧ Aside0 (Kd.R k48 48 w' w.heap.size (fun _ => True) v6 x6_1) ∧ Aside0 (Below w.heap.size w w'))
  case atStart => exact ⟨(([] : List (S48))), (0), (by first | rfl | (simp; done) | (simp [*]; done)), H', ⟨Nat.le_refl _⟩, ⟨by first | exact Kd.R_nil _ _ _ _ _ | exact Kd.N_nil _ _ _ _ _ | exact Kd.V_nil _ _ _ _ _ | exact Kd.Q_nil _ _ _ _ _ | exact Kd.S_nil _ _ _ _ _⟩, ⟨by repeat (first | (with_reducible first | exact HB.out | apply below_alloc | apply pw_below_drewN | apply below_drew1) | exact HB.out)⟩⟩
  case round =>
    clear H'
    try clear c1
    try clear c2
    try clear p2
    obtain ⟨x6_1, x7_1, rfl, HA, HK1, HO_6, HB⟩ := hrel
    cases gk with
    | zero => exact absurd HA.out (by simp [numnahlaw06_tame.l0])
    | succ k1 =>
      have H := HA.out
      clear HA
      simp only [numnahlaw06_tame.l0] at H
      by_cases c4 : x7_1 < (l1.length : Int)
      · rw [if_pos c4] at H
        have c4b0 : decide (x7_1 < (l1.length : Int)) = true := decide_eq_true c4
        clear c4
        by_cases c5 : 0 ≤ x7_1
        · rw [if_pos c5] at H
          have c5b0 : decide (0 ≤ x7_1) = true := decide_eq_true c5
          clear c5
          replace H := Option.bind_eq_some_iff.mp H
          obtain ⟨t226, A60, H⟩ := H
          replace H : ((numnahlaw06_mod.f ((rd_T48 l1 x7_1).f1) (wrap64 (1 + t224))).bind fun t228 => (numnahlaw06_tame.l1 k1 (wrap64 (1 + t224)) l1 x6_1 x7_1 (t226 == t228) 0 (mn t226 t228) (mx t226 t228))) = some (r1, r2) := H
          have A6 := Aside0.mk A60
          clear A60
          replace H := Option.bind_eq_some_iff.mp H
          obtain ⟨t228, A70, H⟩ := H
          replace H : (numnahlaw06_tame.l1 k1 (wrap64 (1 + t224)) l1 x6_1 x7_1 (t226 == t228) 0 (mn t226 t228) (mx t226 t228)) = some (r1, r2) := H
          have A7 := Aside0.mk A70
          clear A70
          obtain ⟨ji8, hji8⟩ : ∃ j_ : Int, (mn t226 t228) = j_ := ⟨_, rfl⟩
          replace H : (numnahlaw06_tame.l1 k1 (wrap64 (1 + t224)) l1 x6_1 x7_1 (t226 == t228) 0 ji8 (mx t226 t228)) = some (r1, r2) := by first | (rw [hji8] at H; exact H) | (simp only [hji8] at H ⊢; exact H)
          (try rw [hji8] at A6)
          (try rw [hji8] at A7)
          have hji8_ : (if t228 < t226 then t228 else t226) = ji8 := hji8
          obtain ⟨ji9, hji9⟩ : ∃ j_ : Int, (mx t226 t228) = j_ := ⟨_, rfl⟩
          replace H : (numnahlaw06_tame.l1 k1 (wrap64 (1 + t224)) l1 x6_1 x7_1 (t226 == t228) 0 ji8 ji9) = some (r1, r2) := by first | (rw [hji9] at H; exact H) | (simp only [hji9] at H ⊢; exact H)
          (try rw [hji9] at A6)
          (try rw [hji9] at A7)
          have hji9_ : (if t226 < t228 then t228 else t226) = ji9 := hji9
          have H' := Aside0.mk H
          clear H
          have p225 : 0 ≤ (x7_1 : Int) := of_decide_eq_true (by first | (with_reducible assumption) | assumption)
          have q225 : x7_1 < (l1.length : Int) := of_decide_eq_true (by first | (with_reducible assumption) | assumption)
          obtain ⟨ad225, e225, hx225_0, hx225_1⟩ := at_T48 HR1.out x7_1 p225 q225
          cases e225
          replace hx225_0 := (HB.out.cell (World.block_lt_of_cell? w _ hx225_0)).trans hx225_0
          replace hx225_1 := (HB.out.cell (World.block_lt_of_cell? w _ hx225_1)).trans hx225_1
          replace p225 := eq_true p225
          replace q225 := eq_true q225
          go_wp2_with (fail)
          repeat (go_quiet (first | (go_at_call 33; (with_reducible refine (numnahlaw06_mod.calls ((rd_T48 l1 x7_1).f0) (wrap64 (1 + t224)) t226 _ A6.out).mono ?_); rintro e w' ⟨rfl, ⟨nd, rfl⟩⟩; (try first | exact ⟨rfl, _, World.drewN_drewN _ _ _⟩ | exact ⟨rfl, _, Eq.trans (World.drewN_drewN _ _ _) (congrArg (World.drewN _) (Nat.add_assoc _ _ _))⟩); have p227 : 0 ≤ (x7_1 : Int) := of_decide_eq_true (by first | (with_reducible assumption) | assumption); have q227 : x7_1 < (l1.length : Int) := of_decide_eq_true (by first | (with_reducible assumption) | assumption); obtain ⟨ad227, e227, hx227_0, hx227_1⟩ := at_T48 HR1.out x7_1 p227 q227; obtain rfl : ad225 = ad227 := (by injection e227); replace hx227_0 := (HB.out.cell (World.block_lt_of_cell? w _ hx227_0)).trans hx227_0; replace hx227_1 := (HB.out.cell (World.block_lt_of_cell? w _ hx227_1)).trans hx227_1; replace p227 := eq_true p227; replace q227 := eq_true q227) | (go_at_call 33; (with_reducible refine (numnahlaw06_mod.calls ((rd_T48 l1 x7_1).f1) (wrap64 (1 + t224)) t228 _ A7.out).mono ?_); rintro e w' ⟨rfl, ⟨nd, rfl⟩⟩; (try first | exact ⟨rfl, _, World.drewN_drewN _ _ _⟩ | exact ⟨rfl, _, Eq.trans (World.drewN_drewN _ _ _) (congrArg (World.drewN _) (Nat.add_assoc _ _ _))⟩))); try go_wp2_with ((with_reducible refine gate_dst (N := 10) rfl ?_); refine box_event ?hg (N := 10) ?hd (cs := #[.int .i64 0, .int .i64 0]) (t := 48) ?hr ?_; (case hd => rfl); (case hg => rfl); (case hr => first | (go_simp; done) | (go_simp; rfl)); intro gb229 hg w10 hbox hb; have n0_ := Aside0.mk (Kd.R_below (Kd.R_elderB (by (with_reducible repeat (first | apply Kd.R_alloc | apply Kd.R_drewN | apply Kd.R_drew)); exact HO_6.out) gb229 (Nat.le_of_eq hg.symm)) hb); have n1_ := Aside0.mk (below_step (by repeat (first | (with_reducible first | exact HB.out | apply below_alloc | apply pw_below_drewN | apply below_drew1) | exact HB.out)) hb); have n2_ := Aside0.mk (hbox); have n3_ := Aside0.mk ((by rw [hg]; exact (below_size (by repeat (first | (with_reducible first | exact HB.out | apply below_alloc | apply pw_below_drewN | apply below_drew1) | exact HB.out))) : w.heap.size ≤ gb229)); have n4_ := Aside0.mk ((by rw [hg]; exact (below_size (by repeat (first | (with_reducible first | exact HB.out | apply below_alloc | apply pw_below_drewN | apply below_drew1) | exact HB.out))) : w.heap.size ≤ gb229)); clear HO_6; clear HB; have HO_6 := n0_; have HB := n1_; have BK229 := n2_; have GW229 := n3_; have GE229 := n4_; clear n0_ n1_ n2_ n3_ n4_; clear hb hbox hg; have hcz11_0 : w10.cell? ⟨gb229, 0, none⟩ = some (.int .i64 0) := (blk_cell BK229.out 0).trans rfl; have hcz11_1 : w10.cell? ⟨gb229, 1, none⟩ = some (.int .i64 0) := (blk_cell BK229.out 1).trans rfl; have hfz11_0 := blk_frozen BK229.out 0; have hfz11_1 := blk_frozen BK229.out 1))
          go_loopg [11, 12] k1 (fun kq v11 v12 w' => ∃ (x11_2 : Bool) (x12_2 : Int), v11 = .bool x11_2 ∧ v12 = .int .i64 x12_2 ∧ Aside0 (numnahlaw06_tame.l1 kq (wrap64 (1 + t224)) l1 x6_1 x7_1 x11_2 x12_2 ji8 ji9 = some (r1, r2)) ∧ Aside0 (kq ≤ k1) ∧ Aside0 (Kd.R k48 48 w' w.heap.size (fun k_ => k_ ≠ gb229) u6 x6_1) ∧ Aside0 (w'.heap[gb229]? = some (.cells #[.int .i64 ji8, .int .i64 ji9] 48 (0, 0))) ∧ Aside0 (Below w.heap.size w w'))
          case atStart => exact ⟨((t226 == t228)), (0), (by first | rfl | (simp; done) | (simp [*]; done)), (by first | rfl | (simp; done) | (simp [*]; done)), H', ⟨Nat.le_refl _⟩, ⟨by (with_reducible repeat (first | apply Kd.R_alloc | apply Kd.R_drewN | apply Kd.R_drew)); exact Kd.R_mono (Kd.R_far (p := ⟨gb229, 1, none⟩) (Kd.R_far (p := ⟨gb229, 0, none⟩) (Kd.R_mono HO_6.out (fun k_ hk => (⟨hk, hk.2⟩ : _ ∧ k_ ≠ gb229))) (fun _ hk => hk.2) (.int .i64 ji8)) (fun _ hk => hk.2) (.int .i64 ji9)) (fun _ hk => hk.1.2)⟩, ⟨by (with_reducible repeat (first | refine blk_drewN ?_ _ | refine blk_drew ?_ | refine blk_alloc ?_ _)); refine blk_put (cs := #[.int .i64 ji8, .int .i64 0]) ?_ 1 _ rfl; (with_reducible repeat (first | refine blk_drewN ?_ _ | refine blk_drew ?_ | refine blk_alloc ?_ _)); refine blk_put (cs := #[.int .i64 0, .int .i64 0]) ?_ 0 _ rfl; (with_reducible repeat (first | refine blk_drewN ?_ _ | refine blk_drew ?_ | refine blk_alloc ?_ _)); exact BK229.out⟩, ⟨by repeat (first | (with_reducible first | exact HB.out | apply below_alloc | apply pw_below_drewN | apply below_drew1 | refine below_set ?_ GE229.out) | exact HB.out)⟩⟩
          case round =>
            clear H'
            try clear c1
            try clear c2
            try clear p2
            try clear q2
            try clear hx2
            try clear c4
            try clear c4b0
            try clear c5
            try clear c5b0
            try clear p6
            try clear hcz11_0
            try clear hcz11_1
            try clear hfz11_0
            try clear hfz11_1
            try clear hx225_0
            try clear hx225_1
            try clear hx227_0
            try clear hx227_1
            try clear p2
            try clear p225
            try clear p227
            try clear q225
            try clear q227
            obtain ⟨x11_2, x12_2, rfl, rfl, HA, HK2, HO_6, BK229, HB⟩ := hrel
            cases gk with
            | zero => exact absurd HA.out (by simp [numnahlaw06_tame.l1])
            | succ k2 =>
              have H := HA.out
              clear HA
              simp only [numnahlaw06_tame.l1] at H
              by_cases c12 : x12_2 < (x6_1.length : Int)
              · rw [if_pos c12] at H
                have c12b0 : decide (x12_2 < (x6_1.length : Int)) = true := decide_eq_true c12
                clear c12
                by_cases c13 : x11_2 = true
                · subst c13
                  have H1 : (numnahlaw06_tame.l1 k2 (wrap64 (1 + t224)) l1 x6_1 x7_1 true (wrap64 (x12_2 + 1)) ji8 ji9) = some (r1, r2) := by rw [if_pos rfl] at H; exact H
                  clear H
                  have H := H1
                  clear H1
                  have H' := Aside0.mk H
                  clear H
                  obtain ⟨Ao14, co14, eo14⟩ := Kd.R_slice HO_6.out
                  subst eo14
                  go_wp2
                  repeat (go_quiet (fail); try go_wp2)
                  go_roundg k2
                  case measure => have := HK1.out; have := HK2.out; omega
                  case rel => exact ⟨(true), (wrap64 (x12_2 + 1)), (by first | rfl | (simp; done) | (simp [*]; done)), (by first | rfl | (simp; done) | (simp [*]; done)), H', ⟨by have := HK1.out; have := HK2.out; omega⟩, ⟨by (with_reducible repeat (first | apply Kd.R_alloc | apply Kd.R_drewN | apply Kd.R_drew)); exact HO_6.out⟩, ⟨by (with_reducible repeat (first | refine blk_drewN ?_ _ | refine blk_drew ?_ | refine blk_alloc ?_ _)); exact BK229.out⟩, ⟨by repeat (first | (with_reducible first | exact HB.out | apply below_alloc | apply pw_below_drewN | apply below_drew1 | refine below_set ?_ GE229.out) | exact HB.out)⟩⟩
                · replace c13 := Bool.eq_false_iff.mpr c13
                  subst c13
                  have H1 : (if 0 ≤ x12_2 then (numnahlaw06_tame.l1 k2 (wrap64 (1 + t224)) l1 x6_1 x7_1 (((rd_T48 x6_1 x12_2).f0) == ji8 && (((rd_T48 x6_1 x12_2).f1) == ji9)) (wrap64 (x12_2 + 1)) ji8 ji9) else (none)) = some (r1, r2) := by rw [if_neg (show ¬ (false = true) by decide)] at H; exact H
                  clear H
                  have H := H1
                  clear H1
                  by_cases c15 : 0 ≤ x12_2
                  · rw [if_pos c15] at H
                    have c15b0 : decide (0 ≤ x12_2) = true := decide_eq_true c15
                    clear c15
                    have H' := Aside0.mk H
                    clear H
                    obtain ⟨Ao16, co16, eo16⟩ := Kd.R_slice HO_6.out
                    subst eo16
                    have p230 : 0 ≤ (x12_2 : Int) := of_decide_eq_true (by first | (with_reducible assumption) | assumption)
                    have q230 : x12_2 < (x6_1.length : Int) := of_decide_eq_true (by first | (with_reducible assumption) | assumption)
                    obtain ⟨ad230, e230, hx230_0, hx230_1⟩ := at_T48 (Kd.R_reads' HO_6.out).2.2 x12_2 p230 q230
                    cases e230
                    replace p230 := eq_true p230
                    replace q230 := eq_true q230
                    have hcz17_0 : wr.cell? ⟨gb229, 0, none⟩ = some (.int .i64 ji8) := (blk_cell BK229.out 0).trans rfl
                    have hcz17_1 : wr.cell? ⟨gb229, 1, none⟩ = some (.int .i64 ji9) := (blk_cell BK229.out 1).trans rfl
                    have hfz17_0 := blk_frozen BK229.out 0
                    have hfz17_1 := blk_frozen BK229.out 1
                    go_wp2
                    repeat (go_quiet (fail); try go_wp2)
                    go_roundg k2
                    case measure => have := HK1.out; have := HK2.out; omega
                    case rel => exact ⟨((((rd_T48 x6_1 x12_2).f0) == ji8 && (((rd_T48 x6_1 x12_2).f1) == ji9))), (wrap64 (x12_2 + 1)), (by first | rfl | (simp; done) | (simp only [← hji8, ← hji9] <;> (first | rfl | simp)) | (simp [*]; done)), (by first | rfl | (simp; done) | (simp [*]; done)), H', ⟨by have := HK1.out; have := HK2.out; omega⟩, ⟨by (with_reducible repeat (first | apply Kd.R_alloc | apply Kd.R_drewN | apply Kd.R_drew)); exact HO_6.out⟩, ⟨by (with_reducible repeat (first | refine blk_drewN ?_ _ | refine blk_drew ?_ | refine blk_alloc ?_ _)); exact BK229.out⟩, ⟨by repeat (first | (with_reducible first | exact HB.out | apply below_alloc | apply pw_below_drewN | apply below_drew1 | refine below_set ?_ GE229.out) | exact HB.out)⟩⟩
                  · rw [if_neg c15] at H
                    exact absurd H (by simp)
              · rw [if_neg c12] at H
                have c12b0 : decide (x12_2 < (x6_1.length : Int)) = false := decide_eq_false c12
                clear c12
                by_cases c18 : x11_2 = true
                · subst c18
                  have H1 : (numnahlaw06_tame.l0 k2 (wrap64 (1 + t224)) l1 x6_1 (wrap64 (x7_1 + 1))) = some (r1, r2) := by rw [if_pos rfl] at H; exact H
                  clear H
                  have H := H1
                  clear H1
                  have H' := Aside0.mk H
                  clear H
                  obtain ⟨Ao19, co19, eo19⟩ := Kd.R_slice HO_6.out
                  subst eo19
                  go_wp2
                  go_roundg k2
                  case measure => have := HK1.out; have := HK2.out; omega
                  case rel => exact ⟨(x6_1), (wrap64 (x7_1 + 1)), (by first | rfl | (simp; done) | (simp [*]; done)), H', ⟨by have := HK1.out; have := HK2.out; omega⟩, ⟨by (with_reducible repeat (first | apply Kd.R_alloc | apply Kd.R_drewN | apply Kd.R_drew)); exact Kd.R_mono HO_6.out (fun _ hk => trivial)⟩, ⟨by repeat (first | (with_reducible first | exact HB.out | apply below_alloc | apply pw_below_drewN | apply below_drew1 | refine below_set ?_ GE229.out) | exact HB.out)⟩⟩
                · replace c18 := Bool.eq_false_iff.mpr c18
                  subst c18
                  have H1 : (if x6_1.length < 8796093022208 then (numnahlaw06_tame.l0 k2 (wrap64 (1 + t224)) l1 (x6_1 ++ [(⟨ji8, ji9⟩ : S48)]) (wrap64 (x7_1 + 1))) else (none)) = some (r1, r2) := by rw [if_neg (show ¬ (false = true) by decide)] at H; exact H
                  clear H
                  have H := H1
                  clear H1
                  by_cases c20 : x6_1.length < 8796093022208
                  · rw [if_pos c20] at H
                    have LMc20 := Aside0.mk c20
                    clear c20
                    obtain ⟨y231, hy231⟩ : ∃ y_ : List (S48), y_ = (x6_1 ++ [(⟨ji8, ji9⟩ : S48)]) := ⟨_, rfl⟩
                    replace H : (numnahlaw06_tame.l0 k2 (wrap64 (1 + t224)) l1 y231 (wrap64 (x7_1 + 1))) = some (r1, r2) := by first | (rw [hy231]; with_reducible exact H) | (have H2_ := (Option.bind_some _ _).symm.trans H; rw [hy231]; with_reducible exact H2_) | (have H2_ := (Option.bind_some _ _).symm.trans H; with_reducible exact H2_) | with_reducible exact H | (rw [hy231]; exact H) | exact H
                    have Ny231 := Aside0.mk hy231
                    clear hy231
                    have H' := Aside0.mk H
                    clear H
                    obtain ⟨Ao21, co21, eo21⟩ := Kd.R_slice HO_6.out
                    subst eo21
                    have hcz22_0 : wr.cell? ⟨gb229, 0, none⟩ = some (.int .i64 ji8) := (blk_cell BK229.out 0).trans rfl
                    have hcz22_1 : wr.cell? ⟨gb229, 1, none⟩ = some (.int .i64 ji9) := (blk_cell BK229.out 1).trans rfl
                    have hfz22_0 := blk_frozen BK229.out 0
                    have hfz22_1 := blk_frozen BK229.out 1
                    go_wp2_with (first | ((with_reducible refine gate_builtin (b := .append) (xs := #[.tmp 63, .tmp 65]) rfl ?_); at_builtin; refine Kd.R_append k48 (w0 := w) w.heap.size rfl (.tmp 63) (.tmp 65) 22 48 (.agg #[(.int .i64 0), (.int .i64 0)]) 16 rfl Tryd.underlying22 info48 rfl (by decide) (by omega) (.slice Ao21 x6_1.length co21) x6_1 (⟨ji8, ji9⟩ : S48) [.int .i64 ji8, .int .i64 ji9] (fun k_ => k_ ≠ gb229) (fun _ => False) rfl rfl ?aP (fun _ hk => hk.elim) ?aF ?aO ?aB ?aS ?aL ?_; (case aP => exact k48_mkM _ _ _ (⟨ji8, ji9⟩ : S48)); (case aB => exact (by repeat (first | (with_reducible first | exact HB.out | apply below_alloc | apply pw_below_drewN | apply below_drew1 | refine below_set ?_ GE229.out) | exact HB.out))); (case aF => exact (fun k_ hk => Kd.freshB (g := gb229) (o := .cells #[.int .i64 ji8, .int .i64 ji9] 48 (0, 0)) (by (with_reducible repeat (first | refine blk_drewN ?_ _ | refine blk_drew ?_ | refine blk_alloc ?_ _)); exact BK229.out) k_ hk)); (case aO => exact (by (with_reducible repeat (first | apply Kd.R_alloc | apply Kd.R_drewN | apply Kd.R_drew)); exact HO_6.out)); (case aS => exact (below_size (by repeat (first | (with_reducible first | exact HB.out | apply below_alloc | apply pw_below_drewN | apply below_drew1 | refine below_set ?_ GE229.out) | exact HB.out)))); (case aL => have := LMc20.out; omega); intro v232 w23 ho hb hg hat; rw [← Ny231.out] at ho; have n0_ := Aside0.mk (blk_grown (g := gb229) (o := .cells #[.int .i64 ji8, .int .i64 ji9] 48 (0, 0)) (by (with_reducible repeat (first | refine blk_drewN ?_ _ | refine blk_drew ?_ | refine blk_alloc ?_ _)); exact BK229.out) hg (Kd.R_away HO_6.out (fun _ hk => hk))); have n1_ := Aside0.mk (hb); have n2_ := Aside0.mk (ho); clear BK229; clear HB; clear HO_6; have BK229 := n0_; have HB := n1_; have HO233 := n2_; clear n0_ n1_ n2_; clear ho hb hg hat))
                    go_roundg k2
                    case measure => have := HK1.out; have := HK2.out; omega
                    case rel => exact ⟨(y231), (wrap64 (x7_1 + 1)), (by first | rfl | (simp; done) | (simp [*]; done)), H', ⟨by have := HK1.out; have := HK2.out; omega⟩, ⟨by (with_reducible repeat (first | apply Kd.R_alloc | apply Kd.R_drewN | apply Kd.R_drew)); exact Kd.R_mono HO233.out (fun _ hk => trivial)⟩, ⟨by repeat (first | (with_reducible first | exact HB.out | apply below_alloc | apply pw_below_drewN | apply below_drew1 | refine below_set ?_ GE229.out) | exact HB.out)⟩⟩
                  · rw [if_neg c20] at H
                    exact absurd H (by simp)
        · rw [if_neg c5] at H
          exact absurd H (by simp)
      · rw [if_neg c4] at H
        have c4b0 : decide (x7_1 < (l1.length : Int)) = false := decide_eq_false c4
        clear c4
        simp only [Option.some.injEq, Prod.mk.injEq] at H
        obtain ⟨rfl, rfl⟩ := H
        go_wp2
        go_ret2
        exact ⟨_, by first | rfl | (simp [errW_none, errW_some] <;> rfl) | (simp [*, errW_none, errW_some] <;> rfl), by (with_reducible repeat (first | apply Kd.R_alloc | apply Kd.R_drewN | apply Kd.R_drew)); exact HO_6.out, by repeat (first | (with_reducible first | exact HB.out | apply below_alloc | apply pw_below_drewN | apply below_drew1) | exact HB.out)⟩
def numnahlaw06_some.f (k : Nat) (a0 : Int) (a1 : Int) : Option (List Int) := if 0 ≤ a0 then ((numnahlaw06_mod.f a1 (shl .i64 1 a0)).bind fun t234 => ((numnahref06_List.f k t234).bind fun t235 => (some t235))) else (none)
theorem numnahlaw06_some.mono : ∀ a0 a1 k, LeO (numnahlaw06_some.f k a0 a1) (numnahlaw06_some.f (k + 1) a0 a1) := by
  intro a0 a1 k
  unfold numnahlaw06_some.f
  repeat' first
      | (with_reducible exact numnahref06_List.mono _ _)
      | (with_reducible exact LeO.refl _)
      | (with_reducible exact LeO.none _)
      | (with_reducible refine LeO.ite ?_ ?_)
      | (with_reducible refine LeO.bind ?_ (fun _ => ?_))
      | exact numnahref06_List.mono _ _
      | exact LeO.none _
      | refine LeO.ite ?_ ?_
      | refine LeO.bind ?_ (fun _ => ?_)
set_option maxHeartbeats 8000000 in
set_option maxRecDepth 100000 in
theorem numnahlaw06_some.calls (k : Nat) (a0 : Int) (a1 : Int) (r : List Int) (w : World) (h : numnahlaw06_some.f k a0 a1 = some r) :
    Calls Tryd.prog 28 #[.int .i64 a0, .int .i64 a1] w fun e w' => ∃ v0_ : Value, e = .returned (v0_) ∧ Kd.R (Kd.int .i64) 3 w' w.heap.size (fun _ => True) v0_ r ∧ Below w.heap.size w w' := by
  have HB := Aside0.mk (Below.refl w.heap.size w)
  have H : (if 0 ≤ a0 then ((numnahlaw06_mod.f a1 (shl .i64 1 a0)).bind fun t234 => ((numnahref06_List.f k t234).bind fun t235 => (some t235))) else (none)) = some r := h
  clear h
  by_cases c3 : 0 ≤ a0
  · rw [if_pos c3] at H
    have c3b0 := eq_true c3
    have c3b1 : decide (0 ≤ a0) = true := decide_eq_true c3
    clear c3
    obtain ⟨ji4, hji4⟩ : ∃ j_ : Int, (shl .i64 1 a0) = j_ := ⟨_, rfl⟩
    replace H : ((numnahlaw06_mod.f a1 (ji4)).bind fun t234 => ((numnahref06_List.f k t234).bind fun t235 => (some t235))) = some r := by first | (rw [hji4] at H; exact H) | (simp only [hji4] at H ⊢; exact H)
    have hji4_ : (IntKind.i64.wrap (1 * 2 ^ min a0.toNat 64)) = ji4 := hji4
    have hji4z : a0 ≤ 64 → (IntKind.i64.wrap (1 * 2 ^ a0.toNat)) = ji4 := shl_small hji4
    have hji4u : (IntKind.i64.wrap (2 ^ min a0.toNat 64)) = ji4 := by have h_ := hji4_; rw [Int.one_mul] at h_; exact h_
    have hji4v : a0 ≤ 64 → (IntKind.i64.wrap (2 ^ a0.toNat)) = ji4 := fun hle_ => by have h_ := hji4z hle_; rw [Int.one_mul] at h_; exact h_
    have hji4y : (wrap64 (1 * 2 ^ min a0.toNat 64)) = ji4 := (i64_w _).symm.trans hji4_
    have hji4x : a0 ≤ 64 → (wrap64 (1 * 2 ^ a0.toNat)) = ji4 := fun h_ => (i64_w _).symm.trans (hji4z h_)
    replace H := Option.bind_eq_some_iff.mp H
    obtain ⟨t234, A50, H⟩ := H
    replace H : ((numnahref06_List.f k t234).bind fun t235 => (some t235)) = some r := H
    have A5 := Aside0.mk A50
    clear A50
    replace H := Option.bind_eq_some_iff.mp H
    obtain ⟨t235, A60, H⟩ := H
    replace H : (some t235) = some r := H
    have A6 := Aside0.mk A60
    clear A60
    obtain rfl := Option.some.inj H
    go_enter Tryd.func28, Tryd.ntmps28
    go_wp2_with (first | ((with_reducible refine gate_callee (f := 33) rfl ?_); refine goesL_ (some 8) rfl rfl Tryd.func33 (by kernel_rfl) rfl #[.int .i64 a1, .int .i64 ji4] rfl (by (try simp only [List.map_toArray, List.map_cons, List.map_nil]); first | done | (simp only [hji4]; rfl) | rfl | (simp only [List.length_drop, List.length_take]; rfl)) ?_; (with_reducible refine (numnahlaw06_mod.calls a1 ji4 t234 _ A5.out).mono ?_); rintro e w' ⟨rfl, ⟨nd, rfl⟩⟩; refine ⟨_, rfl, ?_⟩) | ((with_reducible refine gate_callee (f := 25) rfl ?_); refine goesL_ (some 9) rfl rfl Tryd.func25 (by kernel_rfl) rfl #[.int .i64 t234] rfl (by (try simp only [List.map_toArray, List.map_cons, List.map_nil]); first | done | rfl | (simp only [List.length_drop, List.length_take]; rfl)) ?_; (with_reducible refine (numnahref06_List.calls k t234 t235 _ A6.out).mono ?_); rintro e w7 ⟨v236, rfl, ho0, hb⟩; refine ⟨_, rfl, ?_⟩; have n0_ := Aside0.mk (Kd.R_lower ho0 (below_size (by repeat (first | (with_reducible first | exact HB.out | apply below_alloc | apply pw_below_drewN | apply below_drew1) | exact HB.out)))); have n1_ := Aside0.mk (below_step (by repeat (first | (with_reducible first | exact HB.out | apply below_alloc | apply pw_below_drewN | apply below_drew1) | exact HB.out)) hb); clear HB; have HO237 := n0_; have HB := n1_; clear n0_ n1_; (try clear hb); (try clear hb2); (try clear hk); (try clear hi); (try clear ho0)))
    go_ret
    exact ⟨_, by first | rfl | (simp [errW_none, errW_some] <;> rfl) | (simp only [← hji4]; first | rfl | (simp [errW_none, errW_some] <;> rfl)) | (simp [*, errW_none, errW_some] <;> rfl), by (with_reducible repeat (first | apply Kd.R_alloc | apply Kd.R_drewN | apply Kd.R_drew)); exact HO237.out, by repeat (first | (with_reducible first | exact HB.out | apply below_alloc | apply pw_below_drewN | apply below_drew1) | exact HB.out)⟩
  · rw [if_neg c3] at H
    exact absurd H (by simp)
def numnahref06_Listed.l0 : Nat → Int → List Int → Int → Option (Bool)
  | 0, _, _, _ => none
  | k + 1, x0, x1, x5 => if x5 < (x1.length : Int) then (if 0 ≤ x5 then (if (rd x1 x5) < 0 then (some false) else (if (rd x1 x5) ≥ x0 then (some false) else (if x5 > 0 then (if 0 ≤ (wrap64 (x5 - 1)) then (if (wrap64 (x5 - 1)) < (x1.length : Int) then (if (rd x1 (wrap64 (x5 - 1))) ≥ (rd x1 x5) then (some false) else (numnahref06_Listed.l0 k x0 x1 (wrap64 (x5 + 1)))) else (none)) else (none)) else (numnahref06_Listed.l0 k x0 x1 (wrap64 (x5 + 1)))))) else (none)) else (some true)
def numnahref06_Listed.f (k : Nat) (a0 : Int) (l1 : List Int) : Option (Bool) := numnahref06_Listed.l0 k a0 l1 0
theorem numnahref06_Listed.mono_l : ∀ k, (∀ y0 y1 y2, LeO (numnahref06_Listed.l0 k y0 y1 y2) (numnahref06_Listed.l0 (k + 1) y0 y1 y2))
  | 0 => fun _ _ _ r h => by simp [numnahref06_Listed.l0] at h
  | k + 1 => by
    have ih0 := numnahref06_Listed.mono_l k
    · intro y0 y1 y2
      unfold numnahref06_Listed.l0
      repeat' first
      | (with_reducible exact ih0 _ _ _)
      | (with_reducible exact LeO.refl _)
      | (with_reducible exact LeO.none _)
      | (with_reducible refine LeO.ite ?_ ?_)
      | (with_reducible refine LeO.bind ?_ (fun _ => ?_))
      | exact ih0 _ _ _
      | exact LeO.none _
      | refine LeO.ite ?_ ?_
      | refine LeO.bind ?_ (fun _ => ?_)
theorem numnahref06_Listed.mono : ∀ a0 a1 k, LeO (numnahref06_Listed.f k a0 a1) (numnahref06_Listed.f (k + 1) a0 a1) := by
  intro a0 a1 k
  have ih0 := numnahref06_Listed.mono_l k
  unfold numnahref06_Listed.f
  repeat' first
      | (with_reducible exact ih0 _ _ _)
      | (with_reducible exact LeO.refl _)
      | (with_reducible exact LeO.none _)
      | (with_reducible refine LeO.ite ?_ ?_)
      | (with_reducible refine LeO.bind ?_ (fun _ => ?_))
      | exact ih0 _ _ _
      | exact LeO.none _
      | refine LeO.ite ?_ ?_
      | refine LeO.bind ?_ (fun _ => ?_)
set_option maxHeartbeats 8000000 in
set_option maxRecDepth 100000 in
theorem numnahref06_Listed.calls (k : Nat) (a0 : Int) (A1 : Option Addr) (c1 : Nat) (l1 : List Int) (r : Bool) (w : World) (hr1 : Kd.C (Kd.int .i64) w A1 l1.length l1) (hc1 : l1.length ≤ c1) (h : numnahref06_Listed.f k a0 l1 = some r) :
    Calls Tryd.prog 67 #[.int .i64 a0, .slice A1 l1.length c1] w fun e w' => e = .returned (.bool r) ∧ Drawn0 w w' := by
  have HR1 := Aside0.mk hr1
  have HC1 := Aside0.mk hc1
  clear hr1 hc1
  have H : (numnahref06_Listed.l0 k a0 l1 0) = some r := h
  clear h
  have H' := Aside0.mk H
  clear H
  go_enter Tryd.func67, Tryd.ntmps67
  go_wp2
  go_loopg [5] k (fun kq v5 w' => ∃ (x5_1 : Int), v5 = .int .i64 x5_1 ∧ Aside0 (numnahref06_Listed.l0 kq a0 l1 x5_1 = some r) ∧ Aside0 (kq ≤ k) ∧ Drawn0 w w')
  case atStart => exact ⟨(0), (by first | rfl | (simp; done) | (simp [*]; done)), H', ⟨Nat.le_refl _⟩, by repeat (first | exact Drawn0.refl _ | apply Drawn0.step)⟩
  case round =>
    clear H'
    try clear c1
    try clear p2
    obtain ⟨x5_1, rfl, HA, HK1, ⟨m1, rfl⟩⟩ := hrel
    cases gk with
    | zero => exact absurd HA.out (by simp [numnahref06_Listed.l0])
    | succ k1 =>
      have H := HA.out
      clear HA
      simp only [numnahref06_Listed.l0] at H
      by_cases c3 : x5_1 < (l1.length : Int)
      · rw [if_pos c3] at H
        have c3b0 : decide (x5_1 < (l1.length : Int)) = true := decide_eq_true c3
        clear c3
        by_cases c4 : 0 ≤ x5_1
        · rw [if_pos c4] at H
          have c4b0 : decide (0 ≤ x5_1) = true := decide_eq_true c4
          clear c4
          by_cases c5 : (rd l1 x5_1) < 0
          · rw [if_pos c5] at H
            have c5b0 : decide ((rd l1 x5_1) < 0) = true := decide_eq_true c5
            clear c5
            obtain rfl := Option.some.inj H
            have p238 : 0 ≤ (x5_1 : Int) := of_decide_eq_true (by first | (with_reducible assumption) | assumption)
            have q238 : x5_1 < (l1.length : Int) := of_decide_eq_true (by first | (with_reducible assumption) | assumption)
            obtain ⟨ad238, e238, hx238_0⟩ := Kd.at_int HR1.out x5_1 p238 q238
            cases e238
            replace p238 := eq_true p238
            replace q238 := eq_true q238
            go_wp2
            repeat (go_quiet (fail); try go_wp2)
            go_ret
            exact ⟨by first | rfl | (simp; done) | (simp [*]; done), by repeat (first | exact Drawn0.refl _ | apply Drawn0.step)⟩
          · rw [if_neg c5] at H
            have c5b0 : decide ((rd l1 x5_1) < 0) = false := decide_eq_false c5
            clear c5
            by_cases c6 : (rd l1 x5_1) ≥ a0
            · rw [if_pos c6] at H
              have c6b0 : decide (a0 ≤ (rd l1 x5_1)) = true := decide_eq_true c6
              clear c6
              obtain rfl := Option.some.inj H
              have p238 : 0 ≤ (x5_1 : Int) := of_decide_eq_true (by first | (with_reducible assumption) | assumption)
              have q238 : x5_1 < (l1.length : Int) := of_decide_eq_true (by first | (with_reducible assumption) | assumption)
              obtain ⟨ad238, e238, hx238_0⟩ := Kd.at_int HR1.out x5_1 p238 q238
              cases e238
              replace p238 := eq_true p238
              replace q238 := eq_true q238
              have p239 : 0 ≤ (x5_1 : Int) := of_decide_eq_true (by first | (with_reducible assumption) | assumption)
              have q239 : x5_1 < (l1.length : Int) := of_decide_eq_true (by first | (with_reducible assumption) | assumption)
              obtain ⟨ad239, e239, hx239_0⟩ := Kd.at_int HR1.out x5_1 p239 q239
              obtain rfl : ad238 = ad239 := (by injection e239)
              replace p239 := eq_true p239
              replace q239 := eq_true q239
              go_wp2
              repeat (go_quiet (fail); try go_wp2)
              go_ret
              exact ⟨by first | rfl | (simp; done) | (simp [*]; done), by repeat (first | exact Drawn0.refl _ | apply Drawn0.step)⟩
            · rw [if_neg c6] at H
              have c6b0 : decide (a0 ≤ (rd l1 x5_1)) = false := decide_eq_false c6
              clear c6
              by_cases c7 : x5_1 > 0
              · rw [if_pos c7] at H
                have c7b0 : decide (0 < x5_1) = true := decide_eq_true c7
                clear c7
                obtain ⟨ji8, hji8⟩ : ∃ j_ : Int, (wrap64 (x5_1 - 1)) = j_ := ⟨_, rfl⟩
                replace H : (if 0 ≤ (ji8) then (if (ji8) < (l1.length : Int) then (if (rd l1 (ji8)) ≥ (rd l1 x5_1) then (some false) else (numnahref06_Listed.l0 k1 a0 l1 (wrap64 (x5_1 + 1)))) else (none)) else (none)) = some r := by first | (rw [hji8] at H; exact H) | (simp only [hji8] at H ⊢; exact H)
                have hji8w : (IntKind.i64.wrap (x5_1 - 1)) = ji8 := (i64_w _).trans hji8
                by_cases c9 : 0 ≤ (ji8)
                · rw [if_pos c9] at H
                  have c9b0 : decide (0 ≤ (ji8)) = true := decide_eq_true c9
                  clear c9
                  by_cases c10 : (ji8) < (l1.length : Int)
                  · rw [if_pos c10] at H
                    have c10b0 : decide ((ji8) < (l1.length : Int)) = true := decide_eq_true c10
                    clear c10
                    by_cases c11 : (rd l1 (ji8)) ≥ (rd l1 x5_1)
                    · rw [if_pos c11] at H
                      have c11b0 : decide ((rd l1 x5_1) ≤ (rd l1 (ji8))) = true := decide_eq_true c11
                      clear c11
                      obtain rfl := Option.some.inj H
                      have p238 : 0 ≤ (x5_1 : Int) := of_decide_eq_true (by first | (with_reducible assumption) | assumption)
                      have q238 : x5_1 < (l1.length : Int) := of_decide_eq_true (by first | (with_reducible assumption) | assumption)
                      obtain ⟨ad238, e238, hx238_0⟩ := Kd.at_int HR1.out x5_1 p238 q238
                      cases e238
                      replace p238 := eq_true p238
                      replace q238 := eq_true q238
                      have p239 : 0 ≤ (x5_1 : Int) := of_decide_eq_true (by first | (with_reducible assumption) | assumption)
                      have q239 : x5_1 < (l1.length : Int) := of_decide_eq_true (by first | (with_reducible assumption) | assumption)
                      obtain ⟨ad239, e239, hx239_0⟩ := Kd.at_int HR1.out x5_1 p239 q239
                      obtain rfl : ad238 = ad239 := (by injection e239)
                      replace p239 := eq_true p239
                      replace q239 := eq_true q239
                      have p240 : 0 ≤ ((ji8) : Int) := of_decide_eq_true (by first | (with_reducible assumption) | assumption)
                      have q240 : (ji8) < (l1.length : Int) := of_decide_eq_true (by first | (with_reducible assumption) | assumption)
                      obtain ⟨ad240, e240, hx240_0⟩ := Kd.at_int HR1.out (ji8) p240 q240
                      obtain rfl : ad238 = ad240 := (by injection e240)
                      replace p240 := eq_true p240
                      replace q240 := eq_true q240
                      have p241 : 0 ≤ (x5_1 : Int) := of_decide_eq_true (by first | (with_reducible assumption) | assumption)
                      have q241 : x5_1 < (l1.length : Int) := of_decide_eq_true (by first | (with_reducible assumption) | assumption)
                      obtain ⟨ad241, e241, hx241_0⟩ := Kd.at_int HR1.out x5_1 p241 q241
                      obtain rfl : ad238 = ad241 := (by injection e241)
                      replace p241 := eq_true p241
                      replace q241 := eq_true q241
                      go_wp2
                      repeat (go_quiet (fail); try go_wp2)
                      go_ret
                      exact ⟨by first | rfl | (simp; done) | (simp only [← hji8] <;> (first | rfl | simp)) | (simp [*]; done), by repeat (first | exact Drawn0.refl _ | apply Drawn0.step)⟩
                    · rw [if_neg c11] at H
                      have c11b0 : decide ((rd l1 x5_1) ≤ (rd l1 (ji8))) = false := decide_eq_false c11
                      clear c11
                      have H' := Aside0.mk H
                      clear H
                      have p238 : 0 ≤ (x5_1 : Int) := of_decide_eq_true (by first | (with_reducible assumption) | assumption)
                      have q238 : x5_1 < (l1.length : Int) := of_decide_eq_true (by first | (with_reducible assumption) | assumption)
                      obtain ⟨ad238, e238, hx238_0⟩ := Kd.at_int HR1.out x5_1 p238 q238
                      cases e238
                      replace p238 := eq_true p238
                      replace q238 := eq_true q238
                      have p239 : 0 ≤ (x5_1 : Int) := of_decide_eq_true (by first | (with_reducible assumption) | assumption)
                      have q239 : x5_1 < (l1.length : Int) := of_decide_eq_true (by first | (with_reducible assumption) | assumption)
                      obtain ⟨ad239, e239, hx239_0⟩ := Kd.at_int HR1.out x5_1 p239 q239
                      obtain rfl : ad238 = ad239 := (by injection e239)
                      replace p239 := eq_true p239
                      replace q239 := eq_true q239
                      have p240 : 0 ≤ ((ji8) : Int) := of_decide_eq_true (by first | (with_reducible assumption) | assumption)
                      have q240 : (ji8) < (l1.length : Int) := of_decide_eq_true (by first | (with_reducible assumption) | assumption)
                      obtain ⟨ad240, e240, hx240_0⟩ := Kd.at_int HR1.out (ji8) p240 q240
                      obtain rfl : ad238 = ad240 := (by injection e240)
                      replace p240 := eq_true p240
                      replace q240 := eq_true q240
                      have p241 : 0 ≤ (x5_1 : Int) := of_decide_eq_true (by first | (with_reducible assumption) | assumption)
                      have q241 : x5_1 < (l1.length : Int) := of_decide_eq_true (by first | (with_reducible assumption) | assumption)
                      obtain ⟨ad241, e241, hx241_0⟩ := Kd.at_int HR1.out x5_1 p241 q241
                      obtain rfl : ad238 = ad241 := (by injection e241)
                      replace p241 := eq_true p241
                      replace q241 := eq_true q241
                      go_wp2
                      repeat (go_quiet (fail); try go_wp2)
                      go_roundg k1
                      case measure => have := HK1.out; omega
                      case rel => exact ⟨(wrap64 (x5_1 + 1)), (by first | rfl | (simp; done) | (simp [*]; done)), H', ⟨by have := HK1.out; omega⟩, by repeat (first | exact Drawn0.refl _ | apply Drawn0.step)⟩
                  · rw [if_neg c10] at H
                    exact absurd H (by simp)
                · rw [if_neg c9] at H
                  exact absurd H (by simp)
              · rw [if_neg c7] at H
                have c7b0 : decide (0 < x5_1) = false := decide_eq_false c7
                clear c7
                have H' := Aside0.mk H
                clear H
                have p238 : 0 ≤ (x5_1 : Int) := of_decide_eq_true (by first | (with_reducible assumption) | assumption)
                have q238 : x5_1 < (l1.length : Int) := of_decide_eq_true (by first | (with_reducible assumption) | assumption)
                obtain ⟨ad238, e238, hx238_0⟩ := Kd.at_int HR1.out x5_1 p238 q238
                cases e238
                replace p238 := eq_true p238
                replace q238 := eq_true q238
                have p239 : 0 ≤ (x5_1 : Int) := of_decide_eq_true (by first | (with_reducible assumption) | assumption)
                have q239 : x5_1 < (l1.length : Int) := of_decide_eq_true (by first | (with_reducible assumption) | assumption)
                obtain ⟨ad239, e239, hx239_0⟩ := Kd.at_int HR1.out x5_1 p239 q239
                obtain rfl : ad238 = ad239 := (by injection e239)
                replace p239 := eq_true p239
                replace q239 := eq_true q239
                go_wp2
                repeat (go_quiet (fail); try go_wp2)
                go_roundg k1
                case measure => have := HK1.out; omega
                case rel => exact ⟨(wrap64 (x5_1 + 1)), (by first | rfl | (simp; done) | (simp [*]; done)), H', ⟨by have := HK1.out; omega⟩, by repeat (first | exact Drawn0.refl _ | apply Drawn0.step)⟩
        · rw [if_neg c4] at H
          exact absurd H (by simp)
      · rw [if_neg c3] at H
        have c3b0 : decide (x5_1 < (l1.length : Int)) = false := decide_eq_false c3
        clear c3
        obtain rfl := Option.some.inj H
        go_wp2
        go_ret
        exact ⟨by first | rfl | (simp; done) | (simp [*]; done), by repeat (first | exact Drawn0.refl _ | apply Drawn0.step)⟩
end Go.Proofs.YtpbeaaihdmfnlaaDoor.G

/- ### Gx10 -/
namespace Go.Proofs.YtpbeaaihdmfnlaaDoor.G
open Go.RowKit Go.Proofs.YtpbeaaihdmfnlaaDoorW.PrintWords Go.Proofs.YtpbeaaihdmfnlaaDoorW.PrintLast Go.Proofs.YtpbeaaihdmfnlaaDoorW.PrintMore
attribute [local go_sem] max2_int min2_int max_two min_two max_three min_three max_four min_four   -- for this text's walks alone
set_option linter.unusedVariables false
set_option linter.unusedSimpArgs false
def numnahlaw06_within.f (k : Nat) (a0 : Int) (l1 : List Int) : Option (Bool) := (numnahref06_Listed.f k a0 l1).bind fun t242 => (some t242)
theorem numnahlaw06_within.mono : ∀ a0 a1 k, LeO (numnahlaw06_within.f k a0 a1) (numnahlaw06_within.f (k + 1) a0 a1) := by
  intro a0 a1 k
  unfold numnahlaw06_within.f
  repeat' first
      | (with_reducible exact numnahref06_Listed.mono _ _ _)
      | (with_reducible exact LeO.refl _)
      | (with_reducible exact LeO.none _)
      | (with_reducible refine LeO.ite ?_ ?_)
      | (with_reducible refine LeO.bind ?_ (fun _ => ?_))
      | exact numnahref06_Listed.mono _ _ _
      | exact LeO.none _
      | refine LeO.ite ?_ ?_
      | refine LeO.bind ?_ (fun _ => ?_)
set_option maxHeartbeats 8000000 in
set_option maxRecDepth 100000 in
theorem numnahlaw06_within.calls (k : Nat) (a0 : Int) (A1 : Option Addr) (c1 : Nat) (l1 : List Int) (r : Bool) (w : World) (hr1 : Kd.C (Kd.int .i64) w A1 l1.length l1) (hc1 : l1.length ≤ c1) (h : numnahlaw06_within.f k a0 l1 = some r) :
    Calls Tryd.prog 30 #[.int .i64 a0, .slice A1 l1.length c1] w fun e w' => e = .returned (.bool r) ∧ Drawn0 w w' := by
  have HR1 := Aside0.mk hr1
  have HC1 := Aside0.mk hc1
  clear hr1 hc1
  have H : ((numnahref06_Listed.f k a0 l1).bind fun t242 => (some t242)) = some r := h
  clear h
  replace H := Option.bind_eq_some_iff.mp H
  obtain ⟨t242, A30, H⟩ := H
  replace H : (some t242) = some r := H
  have A3 := Aside0.mk A30
  clear A30
  obtain rfl := Option.some.inj H
  go_enter Tryd.func30, Tryd.ntmps30
  go_wp2_with (first | ((with_reducible refine gate_callee (f := 67) rfl ?_); refine goesL_ (some 7) rfl rfl Tryd.func67 (by kernel_rfl) rfl #[.int .i64 a0, .slice A1 l1.length c1] rfl (by (try simp only [List.map_toArray, List.map_cons, List.map_nil]); first | done | rfl | (simp only [List.length_drop, List.length_take]; rfl)) ?_; (with_reducible refine (numnahref06_Listed.calls k a0 _ _ l1 t242 _ ?side1 ?side2 A3.out).mono ?_); (case side1 => repeat (first | exact HR1.out | (with_reducible refine Kd.C_alloc ?_ _) | (with_reducible refine Kd.C_drewN ?_ _) | (with_reducible refine Kd.C_drew ?_))); (case side2 => exact HC1.out); rintro e w' ⟨rfl, ⟨nd, rfl⟩⟩; refine ⟨_, rfl, ?_⟩))
  go_ret
  exact ⟨by first | rfl | (simp; done) | (simp [*]; done), by repeat (first | exact Drawn0.refl _ | apply Drawn0.step)⟩
def numnahref06_Set.l0 : Nat → List Int → Int → Int → Option (Int)
  | 0, _, _, _ => none
  | k + 1, x0, x3, x4 => if x4 < (x0.length : Int) then (if 0 ≤ x4 then (if 0 ≤ (rd x0 x4) then (numnahref06_Set.l0 k x0 (Go.bits .or .i64 x3 (shl .i64 1 (rd x0 x4))) (wrap64 (x4 + 1))) else (none)) else (none)) else (some x3)
def numnahref06_Set.f (k : Nat) (l0 : List Int) : Option (Int) := numnahref06_Set.l0 k l0 0 0
theorem numnahref06_Set.mono_l : ∀ k, (∀ y0 y1 y2, LeO (numnahref06_Set.l0 k y0 y1 y2) (numnahref06_Set.l0 (k + 1) y0 y1 y2))
  | 0 => fun _ _ _ r h => by simp [numnahref06_Set.l0] at h
  | k + 1 => by
    have ih0 := numnahref06_Set.mono_l k
    · intro y0 y1 y2
      unfold numnahref06_Set.l0
      repeat' first
      | (with_reducible exact ih0 _ _ _)
      | (with_reducible exact LeO.refl _)
      | (with_reducible exact LeO.none _)
      | (with_reducible refine LeO.ite ?_ ?_)
      | (with_reducible refine LeO.bind ?_ (fun _ => ?_))
      | exact ih0 _ _ _
      | exact LeO.none _
      | refine LeO.ite ?_ ?_
      | refine LeO.bind ?_ (fun _ => ?_)
theorem numnahref06_Set.mono : ∀ a0 k, LeO (numnahref06_Set.f k a0) (numnahref06_Set.f (k + 1) a0) := by
  intro a0 k
  have ih0 := numnahref06_Set.mono_l k
  unfold numnahref06_Set.f
  repeat' first
      | (with_reducible exact ih0 _ _ _)
      | (with_reducible exact LeO.refl _)
      | (with_reducible exact LeO.none _)
      | (with_reducible refine LeO.ite ?_ ?_)
      | (with_reducible refine LeO.bind ?_ (fun _ => ?_))
      | exact ih0 _ _ _
      | exact LeO.none _
      | refine LeO.ite ?_ ?_
      | refine LeO.bind ?_ (fun _ => ?_)
set_option maxHeartbeats 8000000 in
set_option maxRecDepth 100000 in
theorem numnahref06_Set.calls (k : Nat) (A0 : Option Addr) (c0 : Nat) (l0 : List Int) (r : Int) (w : World) (hr0 : Kd.C (Kd.int .i64) w A0 l0.length l0) (hc0 : l0.length ≤ c0) (h : numnahref06_Set.f k l0 = some r) :
    Calls Tryd.prog 32 #[.slice A0 l0.length c0] w fun e w' => e = .returned (.int .i64 r) ∧ Drawn0 w w' := by
  have HR0 := Aside0.mk hr0
  have HC0 := Aside0.mk hc0
  clear hr0 hc0
  have H : (numnahref06_Set.l0 k l0 0 0) = some r := h
  clear h
  have H' := Aside0.mk H
  clear H
  go_enter Tryd.func32, Tryd.ntmps32
  go_wp2
  go_loopg [3, 4] k (fun kq v3 v4 w' => ∃ (x3_1 : Int) (x4_1 : Int), v3 = .int .i64 x3_1 ∧ v4 = .int .i64 x4_1 ∧ Aside0 (numnahref06_Set.l0 kq l0 x3_1 x4_1 = some r) ∧ Aside0 (kq ≤ k) ∧ Drawn0 w w')
  case atStart => exact ⟨(0), (0), (by first | rfl | (simp; done) | (simp [*]; done)), (by first | rfl | (simp; done) | (simp [*]; done)), H', ⟨Nat.le_refl _⟩, by repeat (first | exact Drawn0.refl _ | apply Drawn0.step)⟩
  case round =>
    clear H'
    obtain ⟨x3_1, x4_1, rfl, rfl, HA, HK1, ⟨m1, rfl⟩⟩ := hrel
    cases gk with
    | zero => exact absurd HA.out (by simp [numnahref06_Set.l0])
    | succ k1 =>
      have H := HA.out
      clear HA
      simp only [numnahref06_Set.l0] at H
      by_cases c2 : x4_1 < (l0.length : Int)
      · rw [if_pos c2] at H
        have c2b0 : decide (x4_1 < (l0.length : Int)) = true := decide_eq_true c2
        clear c2
        by_cases c3 : 0 ≤ x4_1
        · rw [if_pos c3] at H
          have c3b0 : decide (0 ≤ x4_1) = true := decide_eq_true c3
          clear c3
          by_cases c4 : 0 ≤ (rd l0 x4_1)
          · rw [if_pos c4] at H
            have c4b0 := eq_true c4
            have c4b1 : decide (0 ≤ (rd l0 x4_1)) = true := decide_eq_true c4
            clear c4
            obtain ⟨ji5, hji5⟩ : ∃ j_ : Int, (shl .i64 1 (rd l0 x4_1)) = j_ := ⟨_, rfl⟩
            replace H : (numnahref06_Set.l0 k1 l0 (Go.bits .or .i64 x3_1 (ji5)) (wrap64 (x4_1 + 1))) = some r := by first | (rw [hji5] at H; exact H) | (simp only [hji5] at H ⊢; exact H)
            have hji5_ : (IntKind.i64.wrap (1 * 2 ^ min (rd l0 x4_1).toNat 64)) = ji5 := hji5
            have hji5z : (rd l0 x4_1) ≤ 64 → (IntKind.i64.wrap (1 * 2 ^ (rd l0 x4_1).toNat)) = ji5 := shl_small hji5
            have hji5u : (IntKind.i64.wrap (2 ^ min (rd l0 x4_1).toNat 64)) = ji5 := by have h_ := hji5_; rw [Int.one_mul] at h_; exact h_
            have hji5v : (rd l0 x4_1) ≤ 64 → (IntKind.i64.wrap (2 ^ (rd l0 x4_1).toNat)) = ji5 := fun hle_ => by have h_ := hji5z hle_; rw [Int.one_mul] at h_; exact h_
            have hji5y : (wrap64 (1 * 2 ^ min (rd l0 x4_1).toNat 64)) = ji5 := (i64_w _).symm.trans hji5_
            have hji5x : (rd l0 x4_1) ≤ 64 → (wrap64 (1 * 2 ^ (rd l0 x4_1).toNat)) = ji5 := fun h_ => (i64_w _).symm.trans (hji5z h_)
            have H' := Aside0.mk H
            clear H
            have p243 : 0 ≤ (x4_1 : Int) := of_decide_eq_true (by first | (with_reducible assumption) | assumption)
            have q243 : x4_1 < (l0.length : Int) := of_decide_eq_true (by first | (with_reducible assumption) | assumption)
            obtain ⟨ad243, e243, hx243_0⟩ := Kd.at_int HR0.out x4_1 p243 q243
            cases e243
            replace p243 := eq_true p243
            replace q243 := eq_true q243
            go_wp2
            go_roundg k1
            case measure => have := HK1.out; omega
            case rel => exact ⟨(Go.bits .or .i64 x3_1 (ji5)), (wrap64 (x4_1 + 1)), (by first | rfl | (simp; done) | (simp only [← hji5] <;> (first | rfl | simp)) | (simp [*]; done)), (by first | rfl | (simp; done) | (simp [*]; done)), H', ⟨by have := HK1.out; omega⟩, by repeat (first | exact Drawn0.refl _ | apply Drawn0.step)⟩
          · rw [if_neg c4] at H
            exact absurd H (by simp)
        · rw [if_neg c3] at H
          exact absurd H (by simp)
      · rw [if_neg c2] at H
        have c2b0 : decide (x4_1 < (l0.length : Int)) = false := decide_eq_false c2
        clear c2
        obtain rfl := Option.some.inj H
        go_wp2
        go_ret
        exact ⟨by first | rfl | (simp; done) | (simp [*]; done), by repeat (first | exact Drawn0.refl _ | apply Drawn0.step)⟩
end Go.Proofs.YtpbeaaihdmfnlaaDoor.G

/- ### Gx5 -/
namespace Go.Proofs.YtpbeaaihdmfnlaaDoor.G
open Go.RowKit Go.Proofs.YtpbeaaihdmfnlaaDoorW.PrintWords Go.Proofs.YtpbeaaihdmfnlaaDoorW.PrintLast Go.Proofs.YtpbeaaihdmfnlaaDoorW.PrintMore
attribute [local go_sem] max2_int min2_int max_two min_two max_three min_three max_four min_four   -- for this text's walks alone
set_option linter.unusedVariables false
set_option linter.unusedSimpArgs false
mutual
def numnahref06_Forts.l0 : Nat → List Int → List Int → Int → Option (List Int)
  | 0, _, _, _ => none
  | k + 1, x0, x3, x4 => if x4 < (shl .i64 1 (x0.length : Int)) then ((numnahref06_Fort.f k x0 x4).bind fun t138 => (numnahref06_Forts.l1 k x0 x3 x4 t138 0)) else (some x3)
def numnahref06_Forts.j2 : Nat → List Int → List Int → Int → Bool → Option (List Int)
  | 0, _, _, _, _ => none
  | k + 1, x0, x3, x4, x5 => if x5 = true then (numnahref06_Forts.l2 k x0 x3 x4 0) else (numnahref06_Forts.l0 k x0 x3 (wrap64 (x4 + 1)))
def numnahref06_Forts.l2 : Nat → List Int → List Int → Int → Int → Option (List Int)
  | 0, _, _, _, _ => none
  | k + 1, x0, x3, x4, x7 => if x7 < (x3.length : Int) then (if 0 ≤ x7 then ((numnahref06_Before.f k (rd x3 x7) x4).bind fun t141 => (if t141 = true then (numnahref06_Forts.l2 k x0 x3 x4 (wrap64 (x7 + 1))) else (if x7 ≤ (x3.length : Int) then ((some (x3.take (x7 : Int).toNat : List Int)).bind fun y142 => (if ([] : List Int).length + y142.length < 17592186044416 then ((some (([] : List Int) ++ y142 : List Int)).bind fun y146 => (if y146.length < 17592186044416 then ((some (y146 ++ [x4] : List Int)).bind fun y149 => ((some (x3.drop (x7 : Int).toNat : List Int)).bind fun y152 => (if y149.length + y152.length < 17592186044416 then (numnahref06_Forts.l0 k x0 (y149 ++ y152) (wrap64 (x4 + 1))) else (none)))) else (none))) else (none))) else (none)))) else (none)) else (if 0 ≤ x7 then (if x7 ≤ (x3.length : Int) then ((some (x3.take (x7 : Int).toNat : List Int)).bind fun y159 => (if ([] : List Int).length + y159.length < 17592186044416 then ((some (([] : List Int) ++ y159 : List Int)).bind fun y163 => (if y163.length < 17592186044416 then ((some (y163 ++ [x4] : List Int)).bind fun y166 => ((some (x3.drop (x7 : Int).toNat : List Int)).bind fun y169 => (if y166.length + y169.length < 17592186044416 then (numnahref06_Forts.l0 k x0 (y166 ++ y169) (wrap64 (x4 + 1))) else (none)))) else (none))) else (none))) else (none)) else (none))
def numnahref06_Forts.l1 : Nat → List Int → List Int → Int → Bool → Int → Option (List Int)
  | 0, _, _, _, _, _ => none
  | k + 1, x0, x3, x4, x5, x6 => if x6 < (x3.length : Int) then (if x5 = true then (if 0 ≤ x6 then (numnahref06_Forts.l1 k x0 x3 x4 ((Go.bits .andNot .i64 (rd x3 x6) x4) != 0) (wrap64 (x6 + 1))) else (none)) else (numnahref06_Forts.j2 k x0 x3 x4 x5)) else (numnahref06_Forts.j2 k x0 x3 x4 x5)
end
def numnahref06_Forts.f (k : Nat) (l0 : List Int) : Option (List Int) := numnahref06_Forts.l0 k l0 ([] : List Int) 1
theorem numnahref06_Forts.mono_l : ∀ k, (∀ y0 y1 y2, LeO (numnahref06_Forts.l0 k y0 y1 y2) (numnahref06_Forts.l0 (k + 1) y0 y1 y2)) ∧ (∀ y0 y1 y2 y3, LeO (numnahref06_Forts.j2 k y0 y1 y2 y3) (numnahref06_Forts.j2 (k + 1) y0 y1 y2 y3)) ∧ (∀ y0 y1 y2 y3, LeO (numnahref06_Forts.l2 k y0 y1 y2 y3) (numnahref06_Forts.l2 (k + 1) y0 y1 y2 y3)) ∧ (∀ y0 y1 y2 y3 y4, LeO (numnahref06_Forts.l1 k y0 y1 y2 y3 y4) (numnahref06_Forts.l1 (k + 1) y0 y1 y2 y3 y4))
  | 0 => ⟨fun _ _ _ r h => by simp [numnahref06_Forts.l0] at h, fun _ _ _ _ r h => by simp [numnahref06_Forts.j2] at h, fun _ _ _ _ r h => by simp [numnahref06_Forts.l2] at h, fun _ _ _ _ _ r h => by simp [numnahref06_Forts.l1] at h⟩
  | k + 1 => by
    obtain ⟨ih0, ih1, ih2, ih3⟩ := numnahref06_Forts.mono_l k
    refine ⟨?_, ?_, ?_, ?_⟩
    · intro y0 y1 y2
      unfold numnahref06_Forts.l0
      repeat' first
      | (with_reducible exact ih0 _ _ _)
      | (with_reducible exact ih1 _ _ _ _)
      | (with_reducible exact ih2 _ _ _ _)
      | (with_reducible exact ih3 _ _ _ _ _)
      | (with_reducible exact numnahref06_Before.mono _ _ _)
      | (with_reducible exact numnahref06_Fort.mono _ _ _)
      | (with_reducible exact LeO.refl _)
      | (with_reducible exact LeO.none _)
      | (with_reducible refine LeO.ite ?_ ?_)
      | (with_reducible refine LeO.bind ?_ (fun _ => ?_))
      | exact ih0 _ _ _
      | exact ih1 _ _ _ _
      | exact ih2 _ _ _ _
      | exact ih3 _ _ _ _ _
      | exact numnahref06_Before.mono _ _ _
      | exact numnahref06_Fort.mono _ _ _
      | exact LeO.none _
      | refine LeO.ite ?_ ?_
      | refine LeO.bind ?_ (fun _ => ?_)
    · intro y0 y1 y2 y3
      unfold numnahref06_Forts.j2
      repeat' first
      | (with_reducible exact ih0 _ _ _)
      | (with_reducible exact ih1 _ _ _ _)
      | (with_reducible exact ih2 _ _ _ _)
      | (with_reducible exact ih3 _ _ _ _ _)
      | (with_reducible exact numnahref06_Before.mono _ _ _)
      | (with_reducible exact numnahref06_Fort.mono _ _ _)
      | (with_reducible exact LeO.refl _)
      | (with_reducible exact LeO.none _)
      | (with_reducible refine LeO.ite ?_ ?_)
      | (with_reducible refine LeO.bind ?_ (fun _ => ?_))
      | exact ih0 _ _ _
      | exact ih1 _ _ _ _
      | exact ih2 _ _ _ _
      | exact ih3 _ _ _ _ _
      | exact numnahref06_Before.mono _ _ _
      | exact numnahref06_Fort.mono _ _ _
      | exact LeO.none _
      | refine LeO.ite ?_ ?_
      | refine LeO.bind ?_ (fun _ => ?_)
    · intro y0 y1 y2 y3
      unfold numnahref06_Forts.l2
      repeat' first
      | (with_reducible exact ih0 _ _ _)
      | (with_reducible exact ih1 _ _ _ _)
      | (with_reducible exact ih2 _ _ _ _)
      | (with_reducible exact ih3 _ _ _ _ _)
      | (with_reducible exact numnahref06_Before.mono _ _ _)
      | (with_reducible exact numnahref06_Fort.mono _ _ _)
      | (with_reducible exact LeO.refl _)
      | (with_reducible exact LeO.none _)
      | (with_reducible refine LeO.ite ?_ ?_)
      | (with_reducible refine LeO.bind ?_ (fun _ => ?_))
      | exact ih0 _ _ _
      | exact ih1 _ _ _ _
      | exact ih2 _ _ _ _
      | exact ih3 _ _ _ _ _
      | exact numnahref06_Before.mono _ _ _
      | exact numnahref06_Fort.mono _ _ _
      | exact LeO.none _
      | refine LeO.ite ?_ ?_
      | refine LeO.bind ?_ (fun _ => ?_)
    · intro y0 y1 y2 y3 y4
      unfold numnahref06_Forts.l1
      repeat' first
      | (with_reducible exact ih0 _ _ _)
      | (with_reducible exact ih1 _ _ _ _)
      | (with_reducible exact ih2 _ _ _ _)
      | (with_reducible exact ih3 _ _ _ _ _)
      | (with_reducible exact numnahref06_Before.mono _ _ _)
      | (with_reducible exact numnahref06_Fort.mono _ _ _)
      | (with_reducible exact LeO.refl _)
      | (with_reducible exact LeO.none _)
      | (with_reducible refine LeO.ite ?_ ?_)
      | (with_reducible refine LeO.bind ?_ (fun _ => ?_))
      | exact ih0 _ _ _
      | exact ih1 _ _ _ _
      | exact ih2 _ _ _ _
      | exact ih3 _ _ _ _ _
      | exact numnahref06_Before.mono _ _ _
      | exact numnahref06_Fort.mono _ _ _
      | exact LeO.none _
      | refine LeO.ite ?_ ?_
      | refine LeO.bind ?_ (fun _ => ?_)
theorem numnahref06_Forts.mono : ∀ a0 k, LeO (numnahref06_Forts.f k a0) (numnahref06_Forts.f (k + 1) a0) := by
  intro a0 k
  obtain ⟨ih0, ih1, ih2, ih3⟩ := numnahref06_Forts.mono_l k
  unfold numnahref06_Forts.f
  repeat' first
      | (with_reducible exact ih0 _ _ _)
      | (with_reducible exact ih1 _ _ _ _)
      | (with_reducible exact ih2 _ _ _ _)
      | (with_reducible exact ih3 _ _ _ _ _)
      | (with_reducible exact numnahref06_Before.mono _ _ _)
      | (with_reducible exact numnahref06_Fort.mono _ _ _)
      | (with_reducible exact LeO.refl _)
      | (with_reducible exact LeO.none _)
      | (with_reducible refine LeO.ite ?_ ?_)
      | (with_reducible refine LeO.bind ?_ (fun _ => ?_))
      | exact ih0 _ _ _
      | exact ih1 _ _ _ _
      | exact ih2 _ _ _ _
      | exact ih3 _ _ _ _ _
      | exact numnahref06_Before.mono _ _ _
      | exact numnahref06_Fort.mono _ _ _
      | exact LeO.none _
      | refine LeO.ite ?_ ?_
      | refine LeO.bind ?_ (fun _ => ?_)
set_option maxHeartbeats 8000000 in
set_option maxRecDepth 100000 in
theorem numnahref06_Forts.calls (k : Nat) (A0 : Option Addr) (c0 : Nat) (l0 : List Int) (r : List Int) (w : World) (hr0 : Kd.C (Kd.int .i64) w A0 l0.length l0) (hc0 : l0.length ≤ c0) (h : numnahref06_Forts.f k l0 = some r) :
    Calls Tryd.prog 23 #[.slice A0 l0.length c0] w fun e w' => ∃ v0_ : Value, e = .returned (v0_) ∧ Kd.R (Kd.int .i64) 3 w' w.heap.size (fun _ => True) v0_ r ∧ Below w.heap.size w w' := by
  have HR0 := Aside0.mk hr0
  have HC0 := Aside0.mk hc0
  clear hr0 hc0
  have HB := Aside0.mk (Below.refl w.heap.size w)
  have H : (numnahref06_Forts.l0 k l0 ([] : List Int) 1) = some r := h
  clear h
  have H' := Aside0.mk H
  clear H
  go_enter Tryd.func23, Tryd.ntmps23
  go_wp2
  go_loopg [3, 4] k (fun kq v3 v4 w' => ∃ (x3_1 : List Int) (x4_1 : Int), v4 = .int .i64 x4_1 ∧ Aside0 (numnahref06_Forts.l0 kq l0 x3_1 x4_1 = some r) ∧ Aside0 (kq ≤ k) ∧ Aside0 (Kd.R (Kd.int .i64) 3 w' w.heap.size (fun _ => True) v3 x3_1) ∧ Aside0 (Below w.heap.size w w'))
  case atStart => exact ⟨(([] : List Int)), (1), (by first | rfl | (simp; done) | (simp [*]; done)), H', ⟨Nat.le_refl _⟩, ⟨by first | exact Kd.R_nil _ _ _ _ _ | exact Kd.N_nil _ _ _ _ _ | exact Kd.V_nil _ _ _ _ _ | exact Kd.Q_nil _ _ _ _ _ | exact Kd.S_nil _ _ _ _ _⟩, ⟨by repeat (first | (with_reducible first | exact HB.out | apply below_alloc | apply pw_below_drewN | apply below_drew1) | exact HB.out)⟩⟩
  case round =>
    clear H'
    obtain ⟨x3_1, x4_1, rfl, HA, HK1, HO_3, HB⟩ := hrel
    cases gk with
    | zero => exact absurd HA.out (by simp [numnahref06_Forts.l0])
    | succ k1 =>
      have H := HA.out
      clear HA
      simp only [numnahref06_Forts.l0] at H
      obtain ⟨ji2, hji2⟩ : ∃ j_ : Int, (shl .i64 1 (l0.length : Int)) = j_ := ⟨_, rfl⟩
      replace H : (if x4_1 < (ji2) then ((numnahref06_Fort.f k1 l0 x4_1).bind fun t138 => (numnahref06_Forts.l1 k1 l0 x3_1 x4_1 t138 0)) else (some x3_1)) = some r := by first | (rw [hji2] at H; exact H) | (simp only [hji2] at H ⊢; exact H)
      have hji2_ : (IntKind.i64.wrap (1 * 2 ^ min (l0.length : Int).toNat 64)) = ji2 := hji2
      have hji2z : (l0.length : Int) ≤ 64 → (IntKind.i64.wrap (1 * 2 ^ (l0.length : Int).toNat)) = ji2 := shl_small hji2
      have hji2p : (IntKind.i64.wrap (1 * 2 ^ min l0.length 64)) = ji2 := hji2_
      have hji2q : (l0.length : Int) ≤ 64 → (IntKind.i64.wrap (1 * 2 ^ l0.length)) = ji2 := hji2z
      have hji2r : (IntKind.i64.wrap (2 ^ min l0.length 64)) = ji2 := by have h_ := hji2p; rw [Int.one_mul] at h_; exact h_
      have hji2s : (l0.length : Int) ≤ 64 → (IntKind.i64.wrap (2 ^ l0.length)) = ji2 := fun hle_ => by have h_ := hji2q hle_; rw [Int.one_mul] at h_; exact h_
      have hji2u : (IntKind.i64.wrap (2 ^ min (l0.length : Int).toNat 64)) = ji2 := by have h_ := hji2_; rw [Int.one_mul] at h_; exact h_
      have hji2v : (l0.length : Int) ≤ 64 → (IntKind.i64.wrap (2 ^ (l0.length : Int).toNat)) = ji2 := fun hle_ => by have h_ := hji2z hle_; rw [Int.one_mul] at h_; exact h_
      have hji2y : (wrap64 (1 * 2 ^ min (l0.length : Int).toNat 64)) = ji2 := (i64_w _).symm.trans hji2_
      have hji2x : (l0.length : Int) ≤ 64 → (wrap64 (1 * 2 ^ (l0.length : Int).toNat)) = ji2 := fun h_ => (i64_w _).symm.trans (hji2z h_)
      by_cases c3 : x4_1 < (ji2)
      · rw [if_pos c3] at H
        have c3b0 : decide (x4_1 < (ji2)) = true := decide_eq_true c3
        clear c3
        replace H := Option.bind_eq_some_iff.mp H
        obtain ⟨t138, A40, H⟩ := H
        replace H : (numnahref06_Forts.l1 k1 l0 x3_1 x4_1 t138 0) = some r := H
        have A4 := Aside0.mk A40
        clear A40
        have HC5 := Aside0.mk H
        clear H
        go_upto_block 2 with (first | ((with_reducible refine gate_callee (f := 55) rfl ?_); refine goesL_ (some 18) rfl rfl Tryd.func55 (by kernel_rfl) rfl #[.slice A0 l0.length c0, .int .i64 x4_1] rfl (by (try simp only [List.map_toArray, List.map_cons, List.map_nil]); first | done | rfl | (simp only [List.length_drop, List.length_take]; rfl)) ?_; (with_reducible refine (numnahref06_Fort.calls k1 _ _ l0 x4_1 t138 _ ?side1 ?side2 A4.out).mono ?_); (case side1 => repeat (first | exact (Kd.C_below HR0.out HB.out) | (with_reducible refine Kd.C_alloc ?_ _) | (with_reducible refine Kd.C_drewN ?_ _) | (with_reducible refine Kd.C_drew ?_))); (case side2 => exact HC0.out); rintro e w6 ⟨rfl, hb⟩; refine ⟨_, rfl, ?_⟩; have n0_ := Aside0.mk (Kd.R_below (by (with_reducible repeat (first | apply Kd.R_alloc | apply Kd.R_drewN | apply Kd.R_drew)); exact HO_3.out) hb); have n1_ := Aside0.mk (below_step (by repeat (first | (with_reducible first | exact HB.out | apply below_alloc | apply pw_below_drewN | apply below_drew1) | exact HB.out)) hb); clear HO_3; clear HB; have HO_3 := n0_; have HB := n1_; clear n0_ n1_; (try clear hb); (try clear hb2); (try clear hk); (try clear hi)))
        (try simp only [Act.put, List.setIfInBounds_toArray, List.set_cons_zero, List.set_cons_succ])
        go_cut [5] (fun v5 wc => ∃ (kq : Nat) (x5_4 : Bool), v5 = .bool x5_4 ∧ Aside0 (numnahref06_Forts.j2 kq l0 x3_1 x4_1 x5_4 = some r) ∧ Aside0 (kq ≤ k1) ∧ Aside0 (Kd.R (Kd.int .i64) 3 wc w.heap.size (fun _ => True) u3 x3_1) ∧ Aside0 (Below w.heap.size w wc))
        case first =>
          have H := HC5.out
          clear HC5
          have H' := Aside0.mk H
          clear H
          go_wp2
          go_loopg [5, 6] k1 (fun kq v5 v6 w' => ∃ (x5_2 : Bool) (x6_2 : Int), v5 = .bool x5_2 ∧ v6 = .int .i64 x6_2 ∧ Aside0 (numnahref06_Forts.l1 kq l0 x3_1 x4_1 x5_2 x6_2 = some r) ∧ Aside0 (kq ≤ k1) ∧ Aside0 (Kd.R (Kd.int .i64) 3 w' w.heap.size (fun _ => True) u3 x3_1) ∧ Aside0 (Below w.heap.size w w'))
          case atStart => exact ⟨(t138), (0), (by first | rfl | (simp; done) | (simp [*]; done)), (by first | rfl | (simp; done) | (simp [*]; done)), H', ⟨Nat.le_refl _⟩, ⟨by (with_reducible repeat (first | apply Kd.R_alloc | apply Kd.R_drewN | apply Kd.R_drew)); exact HO_3.out⟩, ⟨by repeat (first | (with_reducible first | exact HB.out | apply below_alloc | apply pw_below_drewN | apply below_drew1) | exact HB.out)⟩⟩
          case round =>
            clear H'
            try clear c2
            try clear p2
            try clear c3
            try clear c3b0
            try clear c5
            try clear p6
            obtain ⟨x5_2, x6_2, rfl, rfl, HA, HK2, HO_3, HB⟩ := hrel
            cases gk with
            | zero => exact absurd HA.out (by simp [numnahref06_Forts.l1])
            | succ k2 =>
              have H := HA.out
              clear HA
              simp only [numnahref06_Forts.l1] at H
              by_cases c7 : x6_2 < (x3_1.length : Int)
              · rw [if_pos c7] at H
                have c7b0 : decide (x6_2 < (x3_1.length : Int)) = true := decide_eq_true c7
                clear c7
                (first | rw [c7b0] | (simp only [i64_w, i32_w]; rw [c7b0]) | skip)
                by_cases c8 : x5_2 = true
                · subst c8
                  have H1 : (if 0 ≤ x6_2 then (numnahref06_Forts.l1 k2 l0 x3_1 x4_1 ((Go.bits .andNot .i64 (rd x3_1 x6_2) x4_1) != 0) (wrap64 (x6_2 + 1))) else (none)) = some r := by rw [if_pos rfl] at H; exact H
                  clear H
                  have H := H1
                  clear H1
                  by_cases c9 : 0 ≤ x6_2
                  · rw [if_pos c9] at H
                    have c9b0 : decide (0 ≤ x6_2) = true := decide_eq_true c9
                    clear c9
                    have H' := Aside0.mk H
                    clear H
                    obtain ⟨Ao10, co10, eo10⟩ := Kd.R_slice HO_3.out
                    subst eo10
                    have p139 : 0 ≤ (x6_2 : Int) := of_decide_eq_true (by first | (with_reducible assumption) | assumption)
                    have q139 : x6_2 < (x3_1.length : Int) := of_decide_eq_true (by first | (with_reducible assumption) | assumption)
                    obtain ⟨ad139, e139, hx139_0⟩ := Kd.at_int (Kd.R_reads' HO_3.out).2.2 x6_2 p139 q139
                    cases e139
                    replace p139 := eq_true p139
                    replace q139 := eq_true q139
                    go_wp2
                    go_roundg k2
                    case measure => have := HK1.out; have := HK2.out; omega
                    case rel => exact ⟨(((Go.bits .andNot .i64 (rd x3_1 x6_2) x4_1) != 0)), (wrap64 (x6_2 + 1)), (by first | rfl | (simp; done) | (simp [*]; done)), (by first | rfl | (simp; done) | (simp [*]; done)), H', ⟨by have := HK1.out; have := HK2.out; omega⟩, ⟨by (with_reducible repeat (first | apply Kd.R_alloc | apply Kd.R_drewN | apply Kd.R_drew)); exact HO_3.out⟩, ⟨by repeat (first | (with_reducible first | exact HB.out | apply below_alloc | apply pw_below_drewN | apply below_drew1) | exact HB.out)⟩⟩
                  · rw [if_neg c9] at H
                    exact absurd H (by simp)
                · replace c8 := Bool.eq_false_iff.mpr c8
                  subst c8
                  have H1 : (numnahref06_Forts.j2 k2 l0 x3_1 x4_1 false) = some r := by rw [if_neg (show ¬ (false = true) by decide)] at H; exact H
                  clear H
                  have H := H1
                  clear H1
                  have H' := Aside0.mk H
                  clear H
                  obtain ⟨Ao11, co11, eo11⟩ := Kd.R_slice HO_3.out
                  subst eo11
                  go_wp2
                  go_meet
                  case rel => exact ⟨_, (false), (by first | rfl | (simp; done) | (simp [*]; done)), H', ⟨by have := HK1.out; have := HK2.out; first | omega | exact Nat.le_refl _⟩, ⟨by (with_reducible repeat (first | apply Kd.R_alloc | apply Kd.R_drewN | apply Kd.R_drew)); exact HO_3.out⟩, ⟨by repeat (first | (with_reducible first | exact HB.out | apply below_alloc | apply pw_below_drewN | apply below_drew1) | exact HB.out)⟩⟩
              · rw [if_neg c7] at H
                have c7b0 : decide (x6_2 < (x3_1.length : Int)) = false := decide_eq_false c7
                clear c7
                (first | rw [c7b0] | (simp only [i64_w, i32_w]; rw [c7b0]) | skip)
                have H' := Aside0.mk H
                clear H
                obtain ⟨Ao12, co12, eo12⟩ := Kd.R_slice HO_3.out
                subst eo12
                go_wp2
                go_meet
                case rel => exact ⟨_, (x5_2), (by first | rfl | (simp; done) | (simp [*]; done)), H', ⟨by have := HK1.out; have := HK2.out; first | omega | exact Nat.le_refl _⟩, ⟨by (with_reducible repeat (first | apply Kd.R_alloc | apply Kd.R_drewN | apply Kd.R_drew)); exact HO_3.out⟩, ⟨by repeat (first | (with_reducible first | exact HB.out | apply below_alloc | apply pw_below_drewN | apply below_drew1) | exact HB.out)⟩⟩
        case rest =>
          clear HC5
          try clear p1
          try clear q1
          try clear hx1
          try clear c2
          try clear p2
          try clear c3
          try clear c3b0
          try clear c5
          try clear p6
          try clear c7
          try clear c7b0
          try clear c8
          try clear c9
          try clear c9b0
          try clear hx139_0
          try clear p139
          try clear p2
          try clear p6
          try clear q139
          obtain ⟨kq, x5_4, rfl, HA, HJ4, HO_3, HB⟩ := hcut
          cases kq with
          | zero => exact absurd HA.out (by simp [numnahref06_Forts.j2])
          | succ kj4 =>
            have H := HA.out
            clear HA
            simp only [numnahref06_Forts.j2] at H
            by_cases c13 : x5_4 = true
            · subst c13
              have H1 : (numnahref06_Forts.l2 kj4 l0 x3_1 x4_1 0) = some r := by rw [if_pos rfl] at H; exact H
              clear H
              have H := H1
              clear H1
              have H' := Aside0.mk H
              clear H
              go_wp2
              go_loopg [7] kj4 (fun kq v7 w' => ∃ (x7_3 : Int), v7 = .int .i64 x7_3 ∧ Aside0 (numnahref06_Forts.l2 kq l0 x3_1 x4_1 x7_3 = some r) ∧ Aside0 (kq ≤ kj4) ∧ Aside0 (Kd.R (Kd.int .i64) 3 w' w.heap.size (fun _ => True) u3 x3_1) ∧ Aside0 (Below w.heap.size w w'))
              case atStart => exact ⟨(0), (by first | rfl | (simp; done) | (simp [*]; done)), H', ⟨Nat.le_refl _⟩, ⟨by (with_reducible repeat (first | apply Kd.R_alloc | apply Kd.R_drewN | apply Kd.R_drew)); exact HO_3.out⟩, ⟨by repeat (first | (with_reducible first | exact HB.out | apply below_alloc | apply pw_below_drewN | apply below_drew1) | exact HB.out)⟩⟩
              case round =>
                clear H'
                try clear c1
                try clear p1
                try clear q1
                try clear hx1
                try clear c2
                try clear p2
                try clear c3
                try clear c3b0
                try clear c5
                try clear p6
                try clear c7
                try clear c7b0
                try clear c8
                try clear c9
                try clear c9b0
                try clear c13
                try clear p13
                try clear q13
                try clear hx13
                try clear hx139_0
                try clear p1
                try clear p139
                try clear p2
                try clear p6
                try clear q1
                try clear q139
                obtain ⟨x7_3, rfl, HA, HK3, HO_3, HB⟩ := hrel
                cases gk with
                | zero => exact absurd HA.out (by simp [numnahref06_Forts.l2])
                | succ k3 =>
                  have H := HA.out
                  clear HA
                  simp only [numnahref06_Forts.l2] at H
                  by_cases c14 : x7_3 < (x3_1.length : Int)
                  · rw [if_pos c14] at H
                    have c14b0 : decide (x7_3 < (x3_1.length : Int)) = true := decide_eq_true c14
                    clear c14
                    by_cases c15 : 0 ≤ x7_3
                    · rw [if_pos c15] at H
                      have c15b0 : decide (0 ≤ x7_3) = true := decide_eq_true c15
                      clear c15
                      replace H := Option.bind_eq_some_iff.mp H
                      obtain ⟨t141, A160, H⟩ := H
                      replace H : (if t141 = true then (numnahref06_Forts.l2 k3 l0 x3_1 x4_1 (wrap64 (x7_3 + 1))) else (if x7_3 ≤ (x3_1.length : Int) then ((some (x3_1.take (x7_3 : Int).toNat : List Int)).bind fun y142 => (if ([] : List Int).length + y142.length < 17592186044416 then ((some (([] : List Int) ++ y142 : List Int)).bind fun y146 => (if y146.length < 17592186044416 then ((some (y146 ++ [x4_1] : List Int)).bind fun y149 => ((some (x3_1.drop (x7_3 : Int).toNat : List Int)).bind fun y152 => (if y149.length + y152.length < 17592186044416 then (numnahref06_Forts.l0 k3 l0 (y149 ++ y152) (wrap64 (x4_1 + 1))) else (none)))) else (none))) else (none))) else (none))) = some r := H
                      have A16 := Aside0.mk A160
                      clear A160
                      by_cases c17 : t141 = true
                      · subst c17
                        have H1 : (numnahref06_Forts.l2 k3 l0 x3_1 x4_1 (wrap64 (x7_3 + 1))) = some r := by rw [if_pos rfl] at H; exact H
                        clear H
                        have H := H1
                        clear H1
                        have H' := Aside0.mk H
                        clear H
                        obtain ⟨Ao18, co18, eo18⟩ := Kd.R_slice HO_3.out
                        subst eo18
                        have p140 : 0 ≤ (x7_3 : Int) := of_decide_eq_true (by first | (with_reducible assumption) | assumption)
                        have q140 : x7_3 < (x3_1.length : Int) := of_decide_eq_true (by first | (with_reducible assumption) | assumption)
                        obtain ⟨ad140, e140, hx140_0⟩ := Kd.at_int (Kd.R_reads' HO_3.out).2.2 x7_3 p140 q140
                        cases e140
                        replace p140 := eq_true p140
                        replace q140 := eq_true q140
                        go_wp2_with (first | (go_at_call 52; (with_reducible refine (numnahref06_Before.calls k3 (rd x3_1 x7_3) x4_1 true _ A16.out).mono ?_); rintro e w19 ⟨rfl, hb⟩; have n0_ := Aside0.mk (Kd.R_below (by (with_reducible repeat (first | apply Kd.R_alloc | apply Kd.R_drewN | apply Kd.R_drew)); exact HO_3.out) hb); have n1_ := Aside0.mk (below_step (by repeat (first | (with_reducible first | exact HB.out | apply below_alloc | apply pw_below_drewN | apply below_drew1) | exact HB.out)) hb); clear HO_3; clear HB; have HO_3 := n0_; have HB := n1_; clear n0_ n1_; (try clear hb); (try clear hb2); (try clear hk); (try clear hi)))
                        go_roundg k3
                        case measure => have := HK1.out; have := HJ4.out; have := HK3.out; omega
                        case rel => exact ⟨(wrap64 (x7_3 + 1)), (by first | rfl | (simp; done) | (simp [*]; done)), H', ⟨by have := HK1.out; have := HJ4.out; have := HK3.out; omega⟩, ⟨by (with_reducible repeat (first | apply Kd.R_alloc | apply Kd.R_drewN | apply Kd.R_drew)); exact HO_3.out⟩, ⟨by repeat (first | (with_reducible first | exact HB.out | apply below_alloc | apply pw_below_drewN | apply below_drew1) | exact HB.out)⟩⟩
                      · replace c17 := Bool.eq_false_iff.mpr c17
                        subst c17
                        have H1 : (if x7_3 ≤ (x3_1.length : Int) then ((some (x3_1.take (x7_3 : Int).toNat : List Int)).bind fun y142 => (if ([] : List Int).length + y142.length < 17592186044416 then ((some (([] : List Int) ++ y142 : List Int)).bind fun y146 => (if y146.length < 17592186044416 then ((some (y146 ++ [x4_1] : List Int)).bind fun y149 => ((some (x3_1.drop (x7_3 : Int).toNat : List Int)).bind fun y152 => (if y149.length + y152.length < 17592186044416 then (numnahref06_Forts.l0 k3 l0 (y149 ++ y152) (wrap64 (x4_1 + 1))) else (none)))) else (none))) else (none))) else (none)) = some r := by rw [if_neg (show ¬ (false = true) by decide)] at H; exact H
                        clear H
                        have H := H1
                        clear H1
                        have c20b0 := eq_true (of_decide_eq_true (by first | (with_reducible assumption) | assumption) : 0 ≤ x7_3)
                        by_cases c21 : x7_3 ≤ (x3_1.length : Int)
                        · rw [if_pos c21] at H
                          have c21b0 := eq_true c21
                          have c21b1 : decide (x7_3 ≤ (x3_1.length : Int)) = true := decide_eq_true c21
                          clear c21
                          obtain ⟨y142, hy142⟩ : ∃ y_ : List Int, y_ = (x3_1.take (x7_3 : Int).toNat) := ⟨_, rfl⟩
                          replace H : (if ([] : List Int).length + y142.length < 17592186044416 then ((some (([] : List Int) ++ y142 : List Int)).bind fun y146 => (if y146.length < 17592186044416 then ((some (y146 ++ [x4_1] : List Int)).bind fun y149 => ((some (x3_1.drop (x7_3 : Int).toNat : List Int)).bind fun y152 => (if y149.length + y152.length < 17592186044416 then (numnahref06_Forts.l0 k3 l0 (y149 ++ y152) (wrap64 (x4_1 + 1))) else (none)))) else (none))) else (none)) = some r := by first | (rw [hy142]; with_reducible exact H) | (have H2_ := (Option.bind_some _ _).symm.trans H; rw [hy142]; with_reducible exact H2_) | (have H2_ := (Option.bind_some _ _).symm.trans H; with_reducible exact H2_) | with_reducible exact H | (rw [hy142]; exact H) | exact H
                          have Ny142 := Aside0.mk hy142
                          clear hy142
                          by_cases c22 : ([] : List Int).length + y142.length < 17592186044416
                          · rw [if_pos c22] at H
                            have LMc22 := Aside0.mk c22
                            clear c22
                            obtain ⟨y146, hy146⟩ : ∃ y_ : List Int, y_ = (([] : List Int) ++ y142) := ⟨_, rfl⟩
                            replace H : (if y146.length < 17592186044416 then ((some (y146 ++ [x4_1] : List Int)).bind fun y149 => ((some (x3_1.drop (x7_3 : Int).toNat : List Int)).bind fun y152 => (if y149.length + y152.length < 17592186044416 then (numnahref06_Forts.l0 k3 l0 (y149 ++ y152) (wrap64 (x4_1 + 1))) else (none)))) else (none)) = some r := by first | (rw [hy146]; with_reducible exact H) | (have H2_ := (Option.bind_some _ _).symm.trans H; rw [hy146]; with_reducible exact H2_) | (have H2_ := (Option.bind_some _ _).symm.trans H; with_reducible exact H2_) | with_reducible exact H | (rw [hy146]; exact H) | exact H
                            have Ny146 := Aside0.mk hy146
                            clear hy146
                            by_cases c23 : y146.length < 17592186044416
                            · rw [if_pos c23] at H
                              have LMc23 := Aside0.mk c23
                              clear c23
                              obtain ⟨y149, hy149⟩ : ∃ y_ : List Int, y_ = (y146 ++ [x4_1]) := ⟨_, rfl⟩
                              replace H : ((some (x3_1.drop (x7_3 : Int).toNat : List Int)).bind fun y152 => (if y149.length + y152.length < 17592186044416 then (numnahref06_Forts.l0 k3 l0 (y149 ++ y152) (wrap64 (x4_1 + 1))) else (none))) = some r := by first | (rw [hy149]; with_reducible exact H) | (have H2_ := (Option.bind_some _ _).symm.trans H; rw [hy149]; with_reducible exact H2_) | (have H2_ := (Option.bind_some _ _).symm.trans H; with_reducible exact H2_) | with_reducible exact H | (rw [hy149]; exact H) | exact H
                              have Ny149 := Aside0.mk hy149
                              clear hy149
                              have c24b0 := eq_true (of_decide_eq_true (by first | (with_reducible assumption) | assumption) : 0 ≤ x7_3)
                              have c25b0 := eq_true (of_decide_eq_true (by first | (with_reducible assumption) | assumption) : x7_3 ≤ (x3_1.length : Int))
                              obtain ⟨y152, hy152⟩ : ∃ y_ : List Int, y_ = (x3_1.drop (x7_3 : Int).toNat) := ⟨_, rfl⟩
                              replace H : (if y149.length + y152.length < 17592186044416 then (numnahref06_Forts.l0 k3 l0 (y149 ++ y152) (wrap64 (x4_1 + 1))) else (none)) = some r := by first | (rw [hy152]; with_reducible exact H) | (have H2_ := (Option.bind_some _ _).symm.trans H; rw [hy152]; with_reducible exact H2_) | (have H2_ := (Option.bind_some _ _).symm.trans H; with_reducible exact H2_) | with_reducible exact H | (rw [hy152]; exact H) | exact H
                              have Ny152 := Aside0.mk hy152
                              clear hy152
                              by_cases c26 : y149.length + y152.length < 17592186044416
                              · rw [if_pos c26] at H
                                have LMc26 := Aside0.mk c26
                                clear c26
                                obtain ⟨y156, hy156⟩ : ∃ y_ : List Int, y_ = (y149 ++ y152) := ⟨_, rfl⟩
                                replace H : (numnahref06_Forts.l0 k3 l0 y156 (wrap64 (x4_1 + 1))) = some r := by first | (rw [hy156]; with_reducible exact H) | (have H2_ := (Option.bind_some _ _).symm.trans H; rw [hy156]; with_reducible exact H2_) | (have H2_ := (Option.bind_some _ _).symm.trans H; with_reducible exact H2_) | with_reducible exact H | (rw [hy156]; exact H) | exact H
                                have Ny156 := Aside0.mk hy156
                                clear hy156
                                have H' := Aside0.mk H
                                clear H
                                obtain ⟨Ao27, co27, eo27⟩ := Kd.R_slice HO_3.out
                                subst eo27
                                have p140 : 0 ≤ (x7_3 : Int) := of_decide_eq_true (by first | (with_reducible assumption) | assumption)
                                have q140 : x7_3 < (x3_1.length : Int) := of_decide_eq_true (by first | (with_reducible assumption) | assumption)
                                obtain ⟨ad140, e140, hx140_0⟩ := Kd.at_int (Kd.R_reads' HO_3.out).2.2 x7_3 p140 q140
                                cases e140
                                replace p140 := eq_true p140
                                replace q140 := eq_true q140
                                go_wp2_with (first | (go_at_call 52; (with_reducible refine (numnahref06_Before.calls k3 (rd x3_1 x7_3) x4_1 false _ A16.out).mono ?_); rintro e w28 ⟨rfl, hb⟩; have n0_ := Aside0.mk (Kd.R_below (by (with_reducible repeat (first | apply Kd.R_alloc | apply Kd.R_drewN | apply Kd.R_drew)); exact HO_3.out) hb); have n1_ := Aside0.mk (below_step (by repeat (first | (with_reducible first | exact HB.out | apply below_alloc | apply pw_below_drewN | apply below_drew1) | exact HB.out)) hb); clear HO_3; clear HB; have HO_3 := n0_; have HB := n1_; clear n0_ n1_; (try clear hb); (try clear hb2); (try clear hk); (try clear hi); have q29 : (x7_3 : Int) ≤ ((x3_1.length : Int) : Int) := of_decide_eq_true (by first | (with_reducible assumption) | assumption); obtain ⟨i029, hi029, _, hsz29, _⟩ := info_parts info3; have hroom29 : x3_1.length ≤ co27 := (Kd.R_reads' HO_3.out).2.1; have hC29 : Kd.C (Kd.int .i64) _ (some ad140) x3_1.length x3_1 := (Kd.R_reads' HO_3.out).2.2; have hcut29 := cut_to (P := Tryd.prog) 24 3 .i64 Tryd.underlying24 hi029 (some ad140) x3_1.length co27 x7_3 (of_decide_eq_true (by first | (with_reducible assumption) | assumption)) q29 hroom29; have hr29 := Kd.C_take (m := (x7_3 : Int).toNat) hC29 (by omega); have hy29 : y142.length = (x7_3 : Int).toNat := (by rw [Ny142.out, List.length_take]; omega); rw [← Ny142.out] at hr29; rw [← hy29] at hcut29; have HR145 := Aside0.mk hr29; have HC145 := Aside0.mk (show y142.length ≤ co27 from by omega); clear hr29 hC29 hroom29 hi029 hsz29; have KY29 := Aside0.mk hy29; clear hy29; have KL29 := Aside0.mk (show (x7_3 : Int).toNat ≤ x3_1.length from by omega); replace q29 := eq_true q29) | ((with_reducible refine gate_builtin (b := .append) (xs := #[.tmp 51, .tmp 54]) rfl ?_); at_builtin; refine Kd.R_append_rows (Kd.int .i64) (w0 := w) w.heap.size rfl (.tmp 51) (.tmp 54) 24 3 (.int .i64 0) 8 rfl Tryd.underlying24 info3 rfl (by decide) (by omega) (.slice none 0 0) ([] : List Int) y142 _ _ _ (fun k_ => some k_ ≠ (.slice (some ad140) x3_1.length co27 : Value).ownBlock) (fun _ => False) rfl rfl ?aO ?aR (fun _ _ h => h) (fun _ h => h.elim) ?aF ?aB ?aS ?aL ?_; (case aR => repeat (first | exact (by repeat (first | (with_reducible exact HR145.out) | (with_reducible refine Kd.C_alloc ?_ _) | (with_reducible refine Kd.C_drewN ?_ _) | (with_reducible refine Kd.C_drew ?_) | exact HR145.out)) | (with_reducible refine Kd.C_alloc ?_ _) | (with_reducible refine Kd.C_drewN ?_ _) | (with_reducible refine Kd.C_drew ?_))); (case aB => exact (by repeat (first | (with_reducible first | exact HB.out | apply below_alloc | apply pw_below_drewN | apply below_drew1) | exact HB.out))); (case aF => exact (fun k_ hk => Kd.fresh' (Kd.R_lt (by (with_reducible repeat (first | apply Kd.R_alloc | apply Kd.R_drewN | apply Kd.R_drew)); exact HO_3.out)) k_ hk)); (case aO => exact ((Kd.R_nil _ _ _ _ (fun k_ => some k_ ≠ (.slice (some ad140) x3_1.length co27 : Value).ownBlock)))); (case aS => exact (below_size (by repeat (first | (with_reducible first | exact HB.out | apply below_alloc | apply pw_below_drewN | apply below_drew1) | exact HB.out)))); (case aL => have := LMc22.out; omega); intro v147 w30 ho hb hg hat; rw [← Ny146.out] at ho; have n0_ := Aside0.mk (Kd.R_after (Kd.R_apart_nil (by (with_reducible repeat (first | apply Kd.R_alloc | apply Kd.R_drewN | apply Kd.R_drew)); exact HO_3.out)) hg hat); have n1_ := Aside0.mk (hb); have n2_ := Aside0.mk ((show Kd.C (Kd.int .i64) w30 (some ad140) y142.length y142 from by rw [Ny142.out]; exact Kd.C_take (m := (x7_3 : Int).toNat) ((Kd.R_reads' (Kd.R_after (Kd.R_apart_nil (by (with_reducible repeat (first | apply Kd.R_alloc | apply Kd.R_drewN | apply Kd.R_drew)); exact HO_3.out)) hg hat)).2.2) KL29.out)); have n3_ := Aside0.mk (ho); clear HO_3; clear HB; clear HR145; have HO_3 := n0_; have HB := n1_; have HR145 := n2_; have HO148 := n3_; clear n0_ n1_ n2_ n3_; clear ho hb hg hat) | ((with_reducible refine gate_builtin (b := .append) (xs := #[.tmp 56, .tmp 58]) rfl ?_); at_builtin; refine Kd.R_append (Kd.int .i64) (w0 := w) w.heap.size rfl (.tmp 56) (.tmp 58) 24 3 (.int .i64 0) 8 rfl Tryd.underlying24 info3 rfl (by decide) (by omega) v147 y146 x4_1 [.int .i64 x4_1] (fun k_ => some k_ ≠ (.slice (some ad140) x3_1.length co27 : Value).ownBlock) (fun _ => False) rfl rfl ?aP (fun _ hk => hk.elim) ?aF ?aO ?aB ?aS ?aL ?_; (case aP => exact rfl); (case aB => exact (by repeat (first | (with_reducible first | exact HB.out | apply below_alloc | apply pw_below_drewN | apply below_drew1) | exact HB.out))); (case aF => exact (fun k_ hk => Kd.fresh' (Kd.R_lt (by (with_reducible repeat (first | apply Kd.R_alloc | apply Kd.R_drewN | apply Kd.R_drew)); exact HO_3.out)) k_ hk)); (case aO => exact (by (with_reducible repeat (first | apply Kd.R_alloc | apply Kd.R_drewN | apply Kd.R_drew)); exact HO148.out)); (case aS => exact (below_size (by repeat (first | (with_reducible first | exact HB.out | apply below_alloc | apply pw_below_drewN | apply below_drew1) | exact HB.out)))); (case aL => have := LMc23.out; omega); intro v150 w31 ho hb hg hat; rw [← Ny149.out] at ho; have n0_ := Aside0.mk (Kd.R_after (ok := (fun _ => True)) (by (with_reducible repeat (first | apply Kd.R_alloc | apply Kd.R_drewN | apply Kd.R_drew)); exact HO_3.out) hg hat); have n1_ := Aside0.mk (hb); have n2_ := Aside0.mk ((show Kd.C (Kd.int .i64) w31 (some ad140) y142.length y142 from by rw [Ny142.out]; exact Kd.C_take (m := (x7_3 : Int).toNat) ((Kd.R_reads' (Kd.R_after (ok := (fun _ => True)) (by (with_reducible repeat (first | apply Kd.R_alloc | apply Kd.R_drewN | apply Kd.R_drew)); exact HO_3.out) hg hat)).2.2) KL29.out)); have n3_ := Aside0.mk (ho); clear HO_3; clear HB; clear HR145; clear HO148; have HO_3 := n0_; have HB := n1_; have HR145 := n2_; have HO151 := n3_; clear n0_ n1_ n2_ n3_; clear ho hb hg hat; have q32 : (x7_3 : Int) ≤ ((x3_1.length : Int) : Int) := of_decide_eq_true (by first | (with_reducible assumption) | assumption); obtain ⟨i032, hi032, _, hsz32, _⟩ := info_parts info3; have hroom32 : x3_1.length ≤ co27 := (Kd.R_reads' HO_3.out).2.1; have hC32 : Kd.C (Kd.int .i64) _ (some ad140) x3_1.length x3_1 := (Kd.R_reads' HO_3.out).2.2; have q032 : (0 : Int) ≤ (x7_3 : Int) := of_decide_eq_true (by first | (with_reducible assumption) | assumption); have hcut32 := cut_from (P := Tryd.prog) 24 3 .i64 Tryd.underlying24 hi032 1 hsz32 (some ad140) x3_1.length co27 x7_3 q032 q32; have hr32 := Kd.C_drop (m := (x7_3 : Int).toNat) (c := co27) hC32 (by omega) hroom32; obtain ⟨A32, hA32⟩ : ∃ A1, A1 = (if co27 = (x7_3 : Int).toNat then (some ad140) else ((some ad140) : Option Addr).map (·.add ((x7_3 : Int).toNat * 1))) := ⟨_, rfl⟩; obtain ⟨c32, hc32⟩ : ∃ c1, c1 = co27 - (x7_3 : Int).toNat := ⟨_, rfl⟩; have hy32 : y152.length = x3_1.length - (x7_3 : Int).toNat := (by rw [Ny152.out, List.length_drop] <;> omega); rw [show (x3_1).drop (x7_3 : Int).toNat = y152 from Ny152.out.symm] at hr32; replace hr32 : Kd.C (Kd.int .i64) _ A32 y152.length y152 := (by rw [hA32]; exact hr32); rw [← hy32, ← hA32, ← hc32] at hcut32; have HR155 := Aside0.mk hr32; have HC155 := Aside0.mk (show y152.length ≤ c32 from by rw [hy32, hc32]; exact Nat.sub_le_sub_right hroom32 _); clear hr32 hC32 hroom32 hi032 hsz32 hc32; have KY32 := Aside0.mk hy32; have KA32 := Aside0.mk hA32; clear hy32 hA32; have KL32 := Aside0.mk (show (x7_3 : Int).toNat ≤ x3_1.length from by omega); replace q32 := eq_true q32) | ((with_reducible refine gate_builtin (b := .append) (xs := #[.tmp 60, .tmp 63]) rfl ?_); at_builtin; refine Kd.R_append_rows (Kd.int .i64) (w0 := w) w.heap.size rfl (.tmp 60) (.tmp 63) 24 3 (.int .i64 0) 8 rfl Tryd.underlying24 info3 rfl (by decide) (by omega) v150 y149 y152 _ _ _ (fun k_ => some k_ ≠ (.slice (some ad140) x3_1.length co27 : Value).ownBlock) (fun _ => False) rfl rfl ?aO ?aR (fun _ _ h => h) (fun _ h => h.elim) ?aF ?aB ?aS ?aL ?_; (case aR => repeat (first | exact (by repeat (first | (with_reducible exact HR155.out) | (with_reducible refine Kd.C_alloc ?_ _) | (with_reducible refine Kd.C_drewN ?_ _) | (with_reducible refine Kd.C_drew ?_) | exact HR155.out)) | (with_reducible refine Kd.C_alloc ?_ _) | (with_reducible refine Kd.C_drewN ?_ _) | (with_reducible refine Kd.C_drew ?_))); (case aB => exact (by repeat (first | (with_reducible first | exact HB.out | apply below_alloc | apply pw_below_drewN | apply below_drew1) | exact HB.out))); (case aF => exact (fun k_ hk => Kd.fresh' (Kd.R_lt (by (with_reducible repeat (first | apply Kd.R_alloc | apply Kd.R_drewN | apply Kd.R_drew)); exact HO_3.out)) k_ hk)); (case aO => exact (by (with_reducible repeat (first | apply Kd.R_alloc | apply Kd.R_drewN | apply Kd.R_drew)); exact HO151.out)); (case aS => exact (below_size (by repeat (first | (with_reducible first | exact HB.out | apply below_alloc | apply pw_below_drewN | apply below_drew1) | exact HB.out)))); (case aL => have := LMc26.out; omega); intro v157 w33 ho hb hg hat; rw [← Ny156.out] at ho; have n0_ := Aside0.mk (Kd.R_after (ok := (fun _ => True)) (by (with_reducible repeat (first | apply Kd.R_alloc | apply Kd.R_drewN | apply Kd.R_drew)); exact HO_3.out) hg hat); have n1_ := Aside0.mk (hb); have n2_ := Aside0.mk ((show Kd.C (Kd.int .i64) w33 (some ad140) y142.length y142 from by rw [Ny142.out]; exact Kd.C_take (m := (x7_3 : Int).toNat) ((Kd.R_reads' (Kd.R_after (ok := (fun _ => True)) (by (with_reducible repeat (first | apply Kd.R_alloc | apply Kd.R_drewN | apply Kd.R_drew)); exact HO_3.out) hg hat)).2.2) KL29.out)); have n3_ := Aside0.mk ((show Kd.C (Kd.int .i64) w33 A32 y152.length y152 from by rw [Ny152.out, KA32.out]; exact Kd.C_drop (m := (x7_3 : Int).toNat) (c := co27) ((Kd.R_reads' (Kd.R_after (ok := (fun _ => True)) (by (with_reducible repeat (first | apply Kd.R_alloc | apply Kd.R_drewN | apply Kd.R_drew)); exact HO_3.out) hg hat)).2.2) KL32.out ((Kd.R_reads' (Kd.R_after (ok := (fun _ => True)) (by (with_reducible repeat (first | apply Kd.R_alloc | apply Kd.R_drewN | apply Kd.R_drew)); exact HO_3.out) hg hat)).2.1))); have n4_ := Aside0.mk (ho); clear HO_3; clear HB; clear HR145; clear HR155; clear HO151; have HO_3 := n0_; have HB := n1_; have HR145 := n2_; have HR155 := n3_; have HO158 := n4_; clear n0_ n1_ n2_ n3_ n4_; clear ho hb hg hat))
                                go_roundg k3
                                case measure => have := HK1.out; have := HJ4.out; have := HK3.out; omega
                                case rel => exact ⟨(y156), (wrap64 (x4_1 + 1)), (by first | rfl | (simp; done) | (simp [*]; done)), H', ⟨by have := HK1.out; have := HJ4.out; have := HK3.out; omega⟩, ⟨by (with_reducible repeat (first | apply Kd.R_alloc | apply Kd.R_drewN | apply Kd.R_drew)); exact Kd.R_mono HO158.out (fun _ hk => trivial)⟩, ⟨by repeat (first | (with_reducible first | exact HB.out | apply below_alloc | apply pw_below_drewN | apply below_drew1) | exact HB.out)⟩⟩
                              · rw [if_neg c26] at H
                                exact absurd H (by simp)
                            · rw [if_neg c23] at H
                              exact absurd H (by simp)
                          · rw [if_neg c22] at H
                            exact absurd H (by simp)
                        · rw [if_neg c21] at H
                          exact absurd H (by simp)
                    · rw [if_neg c15] at H
                      exact absurd H (by simp)
                  · rw [if_neg c14] at H
                    have c14b0 : decide (x7_3 < (x3_1.length : Int)) = false := decide_eq_false c14
                    clear c14
                    by_cases c34 : 0 ≤ x7_3
                    · rw [if_pos c34] at H
                      have c34b0 := eq_true c34
                      have c34b1 : decide (0 ≤ x7_3) = true := decide_eq_true c34
                      clear c34
                      by_cases c35 : x7_3 ≤ (x3_1.length : Int)
                      · rw [if_pos c35] at H
                        have c35b0 := eq_true c35
                        have c35b1 : decide (x7_3 ≤ (x3_1.length : Int)) = true := decide_eq_true c35
                        clear c35
                        obtain ⟨y159, hy159⟩ : ∃ y_ : List Int, y_ = (x3_1.take (x7_3 : Int).toNat) := ⟨_, rfl⟩
                        replace H : (if ([] : List Int).length + y159.length < 17592186044416 then ((some (([] : List Int) ++ y159 : List Int)).bind fun y163 => (if y163.length < 17592186044416 then ((some (y163 ++ [x4_1] : List Int)).bind fun y166 => ((some (x3_1.drop (x7_3 : Int).toNat : List Int)).bind fun y169 => (if y166.length + y169.length < 17592186044416 then (numnahref06_Forts.l0 k3 l0 (y166 ++ y169) (wrap64 (x4_1 + 1))) else (none)))) else (none))) else (none)) = some r := by first | (rw [hy159]; with_reducible exact H) | (have H2_ := (Option.bind_some _ _).symm.trans H; rw [hy159]; with_reducible exact H2_) | (have H2_ := (Option.bind_some _ _).symm.trans H; with_reducible exact H2_) | with_reducible exact H | (rw [hy159]; exact H) | exact H
                        have Ny159 := Aside0.mk hy159
                        clear hy159
                        by_cases c36 : ([] : List Int).length + y159.length < 17592186044416
                        · rw [if_pos c36] at H
                          have LMc36 := Aside0.mk c36
                          clear c36
                          obtain ⟨y163, hy163⟩ : ∃ y_ : List Int, y_ = (([] : List Int) ++ y159) := ⟨_, rfl⟩
                          replace H : (if y163.length < 17592186044416 then ((some (y163 ++ [x4_1] : List Int)).bind fun y166 => ((some (x3_1.drop (x7_3 : Int).toNat : List Int)).bind fun y169 => (if y166.length + y169.length < 17592186044416 then (numnahref06_Forts.l0 k3 l0 (y166 ++ y169) (wrap64 (x4_1 + 1))) else (none)))) else (none)) = some r := by first | (rw [hy163]; with_reducible exact H) | (have H2_ := (Option.bind_some _ _).symm.trans H; rw [hy163]; with_reducible exact H2_) | (have H2_ := (Option.bind_some _ _).symm.trans H; with_reducible exact H2_) | with_reducible exact H | (rw [hy163]; exact H) | exact H
                          have Ny163 := Aside0.mk hy163
                          clear hy163
                          by_cases c37 : y163.length < 17592186044416
                          · rw [if_pos c37] at H
                            have LMc37 := Aside0.mk c37
                            clear c37
                            obtain ⟨y166, hy166⟩ : ∃ y_ : List Int, y_ = (y163 ++ [x4_1]) := ⟨_, rfl⟩
                            replace H : ((some (x3_1.drop (x7_3 : Int).toNat : List Int)).bind fun y169 => (if y166.length + y169.length < 17592186044416 then (numnahref06_Forts.l0 k3 l0 (y166 ++ y169) (wrap64 (x4_1 + 1))) else (none))) = some r := by first | (rw [hy166]; with_reducible exact H) | (have H2_ := (Option.bind_some _ _).symm.trans H; rw [hy166]; with_reducible exact H2_) | (have H2_ := (Option.bind_some _ _).symm.trans H; with_reducible exact H2_) | with_reducible exact H | (rw [hy166]; exact H) | exact H
                            have Ny166 := Aside0.mk hy166
                            clear hy166
                            have c38b0 := eq_true (of_decide_eq_true (by first | (with_reducible assumption) | assumption) : 0 ≤ x7_3)
                            have c39b0 := eq_true (of_decide_eq_true (by first | (with_reducible assumption) | assumption) : x7_3 ≤ (x3_1.length : Int))
                            obtain ⟨y169, hy169⟩ : ∃ y_ : List Int, y_ = (x3_1.drop (x7_3 : Int).toNat) := ⟨_, rfl⟩
                            replace H : (if y166.length + y169.length < 17592186044416 then (numnahref06_Forts.l0 k3 l0 (y166 ++ y169) (wrap64 (x4_1 + 1))) else (none)) = some r := by first | (rw [hy169]; with_reducible exact H) | (have H2_ := (Option.bind_some _ _).symm.trans H; rw [hy169]; with_reducible exact H2_) | (have H2_ := (Option.bind_some _ _).symm.trans H; with_reducible exact H2_) | with_reducible exact H | (rw [hy169]; exact H) | exact H
                            have Ny169 := Aside0.mk hy169
                            clear hy169
                            by_cases c40 : y166.length + y169.length < 17592186044416
                            · rw [if_pos c40] at H
                              have LMc40 := Aside0.mk c40
                              clear c40
                              obtain ⟨y173, hy173⟩ : ∃ y_ : List Int, y_ = (y166 ++ y169) := ⟨_, rfl⟩
                              replace H : (numnahref06_Forts.l0 k3 l0 y173 (wrap64 (x4_1 + 1))) = some r := by first | (rw [hy173]; with_reducible exact H) | (have H2_ := (Option.bind_some _ _).symm.trans H; rw [hy173]; with_reducible exact H2_) | (have H2_ := (Option.bind_some _ _).symm.trans H; with_reducible exact H2_) | with_reducible exact H | (rw [hy173]; exact H) | exact H
                              have Ny173 := Aside0.mk hy173
                              clear hy173
                              have H' := Aside0.mk H
                              clear H
                              obtain ⟨Ao41, co41, eo41⟩ := Kd.R_slice HO_3.out
                              subst eo41
                              have q42 : (x7_3 : Int) ≤ ((x3_1.length : Int) : Int) := of_decide_eq_true (by first | (with_reducible assumption) | assumption)
                              obtain ⟨i042, hi042, _, hsz42, _⟩ := info_parts info3
                              have hroom42 : x3_1.length ≤ co41 := (Kd.R_reads' HO_3.out).2.1
                              have hC42 : Kd.C (Kd.int .i64) _ Ao41 x3_1.length x3_1 := (Kd.R_reads' HO_3.out).2.2
                              have hcut42 := cut_to (P := Tryd.prog) 24 3 .i64 Tryd.underlying24 hi042 Ao41 x3_1.length co41 x7_3 (of_decide_eq_true (by first | (with_reducible assumption) | assumption)) q42 hroom42
                              have hr42 := Kd.C_take (m := (x7_3 : Int).toNat) hC42 (by omega)
                              have hy42 : y159.length = (x7_3 : Int).toNat := (by rw [Ny159.out, List.length_take]; omega)
                              rw [← Ny159.out] at hr42
                              rw [← hy42] at hcut42
                              have HR162 := Aside0.mk hr42
                              have HC162 := Aside0.mk (show y159.length ≤ co41 from by omega)
                              clear hr42 hC42 hroom42 hi042 hsz42
                              have KY42 := Aside0.mk hy42
                              clear hy42
                              have KL42 := Aside0.mk (show (x7_3 : Int).toNat ≤ x3_1.length from by omega)
                              replace q42 := eq_true q42
                              go_wp2_with (first | ((with_reducible refine gate_builtin (b := .append) (xs := #[.tmp 51, .tmp 54]) rfl ?_); at_builtin; refine Kd.R_append_rows (Kd.int .i64) (w0 := w) w.heap.size rfl (.tmp 51) (.tmp 54) 24 3 (.int .i64 0) 8 rfl Tryd.underlying24 info3 rfl (by decide) (by omega) (.slice none 0 0) ([] : List Int) y159 _ _ _ (fun k_ => some k_ ≠ (.slice Ao41 x3_1.length co41 : Value).ownBlock) (fun _ => False) rfl rfl ?aO ?aR (fun _ _ h => h) (fun _ h => h.elim) ?aF ?aB ?aS ?aL ?_; (case aR => repeat (first | exact (by repeat (first | (with_reducible exact HR162.out) | (with_reducible refine Kd.C_alloc ?_ _) | (with_reducible refine Kd.C_drewN ?_ _) | (with_reducible refine Kd.C_drew ?_) | exact HR162.out)) | (with_reducible refine Kd.C_alloc ?_ _) | (with_reducible refine Kd.C_drewN ?_ _) | (with_reducible refine Kd.C_drew ?_))); (case aB => exact (by repeat (first | (with_reducible first | exact HB.out | apply below_alloc | apply pw_below_drewN | apply below_drew1) | exact HB.out))); (case aF => exact (fun k_ hk => Kd.fresh' (Kd.R_lt (by (with_reducible repeat (first | apply Kd.R_alloc | apply Kd.R_drewN | apply Kd.R_drew)); exact HO_3.out)) k_ hk)); (case aO => exact ((Kd.R_nil _ _ _ _ (fun k_ => some k_ ≠ (.slice Ao41 x3_1.length co41 : Value).ownBlock)))); (case aS => exact (below_size (by repeat (first | (with_reducible first | exact HB.out | apply below_alloc | apply pw_below_drewN | apply below_drew1) | exact HB.out)))); (case aL => have := LMc36.out; omega); intro v164 w43 ho hb hg hat; rw [← Ny163.out] at ho; have n0_ := Aside0.mk (Kd.R_after (Kd.R_apart_nil (by (with_reducible repeat (first | apply Kd.R_alloc | apply Kd.R_drewN | apply Kd.R_drew)); exact HO_3.out)) hg hat); have n1_ := Aside0.mk (hb); have n2_ := Aside0.mk ((show Kd.C (Kd.int .i64) w43 Ao41 y159.length y159 from by rw [Ny159.out]; exact Kd.C_take (m := (x7_3 : Int).toNat) ((Kd.R_reads' (Kd.R_after (Kd.R_apart_nil (by (with_reducible repeat (first | apply Kd.R_alloc | apply Kd.R_drewN | apply Kd.R_drew)); exact HO_3.out)) hg hat)).2.2) KL42.out)); have n3_ := Aside0.mk (ho); clear HO_3; clear HB; clear HR162; have HO_3 := n0_; have HB := n1_; have HR162 := n2_; have HO165 := n3_; clear n0_ n1_ n2_ n3_; clear ho hb hg hat) | ((with_reducible refine gate_builtin (b := .append) (xs := #[.tmp 56, .tmp 58]) rfl ?_); at_builtin; refine Kd.R_append (Kd.int .i64) (w0 := w) w.heap.size rfl (.tmp 56) (.tmp 58) 24 3 (.int .i64 0) 8 rfl Tryd.underlying24 info3 rfl (by decide) (by omega) v164 y163 x4_1 [.int .i64 x4_1] (fun k_ => some k_ ≠ (.slice Ao41 x3_1.length co41 : Value).ownBlock) (fun _ => False) rfl rfl ?aP (fun _ hk => hk.elim) ?aF ?aO ?aB ?aS ?aL ?_; (case aP => exact rfl); (case aB => exact (by repeat (first | (with_reducible first | exact HB.out | apply below_alloc | apply pw_below_drewN | apply below_drew1) | exact HB.out))); (case aF => exact (fun k_ hk => Kd.fresh' (Kd.R_lt (by (with_reducible repeat (first | apply Kd.R_alloc | apply Kd.R_drewN | apply Kd.R_drew)); exact HO_3.out)) k_ hk)); (case aO => exact (by (with_reducible repeat (first | apply Kd.R_alloc | apply Kd.R_drewN | apply Kd.R_drew)); exact HO165.out)); (case aS => exact (below_size (by repeat (first | (with_reducible first | exact HB.out | apply below_alloc | apply pw_below_drewN | apply below_drew1) | exact HB.out)))); (case aL => have := LMc37.out; omega); intro v167 w44 ho hb hg hat; rw [← Ny166.out] at ho; have n0_ := Aside0.mk (Kd.R_after (ok := (fun _ => True)) (by (with_reducible repeat (first | apply Kd.R_alloc | apply Kd.R_drewN | apply Kd.R_drew)); exact HO_3.out) hg hat); have n1_ := Aside0.mk (hb); have n2_ := Aside0.mk ((show Kd.C (Kd.int .i64) w44 Ao41 y159.length y159 from by rw [Ny159.out]; exact Kd.C_take (m := (x7_3 : Int).toNat) ((Kd.R_reads' (Kd.R_after (ok := (fun _ => True)) (by (with_reducible repeat (first | apply Kd.R_alloc | apply Kd.R_drewN | apply Kd.R_drew)); exact HO_3.out) hg hat)).2.2) KL42.out)); have n3_ := Aside0.mk (ho); clear HO_3; clear HB; clear HR162; clear HO165; have HO_3 := n0_; have HB := n1_; have HR162 := n2_; have HO168 := n3_; clear n0_ n1_ n2_ n3_; clear ho hb hg hat; have q45 : (x7_3 : Int) ≤ ((x3_1.length : Int) : Int) := of_decide_eq_true (by first | (with_reducible assumption) | assumption); obtain ⟨i045, hi045, _, hsz45, _⟩ := info_parts info3; have hroom45 : x3_1.length ≤ co41 := (Kd.R_reads' HO_3.out).2.1; have hC45 : Kd.C (Kd.int .i64) _ Ao41 x3_1.length x3_1 := (Kd.R_reads' HO_3.out).2.2; have q045 : (0 : Int) ≤ (x7_3 : Int) := of_decide_eq_true (by first | (with_reducible assumption) | assumption); have hcut45 := cut_from (P := Tryd.prog) 24 3 .i64 Tryd.underlying24 hi045 1 hsz45 Ao41 x3_1.length co41 x7_3 q045 q45; have hr45 := Kd.C_drop (m := (x7_3 : Int).toNat) (c := co41) hC45 (by omega) hroom45; obtain ⟨A45, hA45⟩ : ∃ A1, A1 = (if co41 = (x7_3 : Int).toNat then Ao41 else (Ao41 : Option Addr).map (·.add ((x7_3 : Int).toNat * 1))) := ⟨_, rfl⟩; obtain ⟨c45, hc45⟩ : ∃ c1, c1 = co41 - (x7_3 : Int).toNat := ⟨_, rfl⟩; have hy45 : y169.length = x3_1.length - (x7_3 : Int).toNat := (by rw [Ny169.out, List.length_drop] <;> omega); rw [show (x3_1).drop (x7_3 : Int).toNat = y169 from Ny169.out.symm] at hr45; replace hr45 : Kd.C (Kd.int .i64) _ A45 y169.length y169 := (by rw [hA45]; exact hr45); rw [← hy45, ← hA45, ← hc45] at hcut45; have HR172 := Aside0.mk hr45; have HC172 := Aside0.mk (show y169.length ≤ c45 from by rw [hy45, hc45]; exact Nat.sub_le_sub_right hroom45 _); clear hr45 hC45 hroom45 hi045 hsz45 hc45; have KY45 := Aside0.mk hy45; have KA45 := Aside0.mk hA45; clear hy45 hA45; have KL45 := Aside0.mk (show (x7_3 : Int).toNat ≤ x3_1.length from by omega); replace q45 := eq_true q45) | ((with_reducible refine gate_builtin (b := .append) (xs := #[.tmp 60, .tmp 63]) rfl ?_); at_builtin; refine Kd.R_append_rows (Kd.int .i64) (w0 := w) w.heap.size rfl (.tmp 60) (.tmp 63) 24 3 (.int .i64 0) 8 rfl Tryd.underlying24 info3 rfl (by decide) (by omega) v167 y166 y169 _ _ _ (fun k_ => some k_ ≠ (.slice Ao41 x3_1.length co41 : Value).ownBlock) (fun _ => False) rfl rfl ?aO ?aR (fun _ _ h => h) (fun _ h => h.elim) ?aF ?aB ?aS ?aL ?_; (case aR => repeat (first | exact (by repeat (first | (with_reducible exact HR172.out) | (with_reducible refine Kd.C_alloc ?_ _) | (with_reducible refine Kd.C_drewN ?_ _) | (with_reducible refine Kd.C_drew ?_) | exact HR172.out)) | (with_reducible refine Kd.C_alloc ?_ _) | (with_reducible refine Kd.C_drewN ?_ _) | (with_reducible refine Kd.C_drew ?_))); (case aB => exact (by repeat (first | (with_reducible first | exact HB.out | apply below_alloc | apply pw_below_drewN | apply below_drew1) | exact HB.out))); (case aF => exact (fun k_ hk => Kd.fresh' (Kd.R_lt (by (with_reducible repeat (first | apply Kd.R_alloc | apply Kd.R_drewN | apply Kd.R_drew)); exact HO_3.out)) k_ hk)); (case aO => exact (by (with_reducible repeat (first | apply Kd.R_alloc | apply Kd.R_drewN | apply Kd.R_drew)); exact HO168.out)); (case aS => exact (below_size (by repeat (first | (with_reducible first | exact HB.out | apply below_alloc | apply pw_below_drewN | apply below_drew1) | exact HB.out)))); (case aL => have := LMc40.out; omega); intro v174 w46 ho hb hg hat; rw [← Ny173.out] at ho; have n0_ := Aside0.mk (Kd.R_after (ok := (fun _ => True)) (by (with_reducible repeat (first | apply Kd.R_alloc | apply Kd.R_drewN | apply Kd.R_drew)); exact HO_3.out) hg hat); have n1_ := Aside0.mk (hb); have n2_ := Aside0.mk ((show Kd.C (Kd.int .i64) w46 Ao41 y159.length y159 from by rw [Ny159.out]; exact Kd.C_take (m := (x7_3 : Int).toNat) ((Kd.R_reads' (Kd.R_after (ok := (fun _ => True)) (by (with_reducible repeat (first | apply Kd.R_alloc | apply Kd.R_drewN | apply Kd.R_drew)); exact HO_3.out) hg hat)).2.2) KL42.out)); have n3_ := Aside0.mk ((show Kd.C (Kd.int .i64) w46 A45 y169.length y169 from by rw [Ny169.out, KA45.out]; exact Kd.C_drop (m := (x7_3 : Int).toNat) (c := co41) ((Kd.R_reads' (Kd.R_after (ok := (fun _ => True)) (by (with_reducible repeat (first | apply Kd.R_alloc | apply Kd.R_drewN | apply Kd.R_drew)); exact HO_3.out) hg hat)).2.2) KL45.out ((Kd.R_reads' (Kd.R_after (ok := (fun _ => True)) (by (with_reducible repeat (first | apply Kd.R_alloc | apply Kd.R_drewN | apply Kd.R_drew)); exact HO_3.out) hg hat)).2.1))); have n4_ := Aside0.mk (ho); clear HO_3; clear HB; clear HR162; clear HR172; clear HO168; have HO_3 := n0_; have HB := n1_; have HR162 := n2_; have HR172 := n3_; have HO175 := n4_; clear n0_ n1_ n2_ n3_ n4_; clear ho hb hg hat))
                              go_roundg k3
                              case measure => have := HK1.out; have := HJ4.out; have := HK3.out; omega
                              case rel => exact ⟨(y173), (wrap64 (x4_1 + 1)), (by first | rfl | (simp; done) | (simp [*]; done)), H', ⟨by have := HK1.out; have := HJ4.out; have := HK3.out; omega⟩, ⟨by (with_reducible repeat (first | apply Kd.R_alloc | apply Kd.R_drewN | apply Kd.R_drew)); exact Kd.R_mono HO175.out (fun _ hk => trivial)⟩, ⟨by repeat (first | (with_reducible first | exact HB.out | apply below_alloc | apply pw_below_drewN | apply below_drew1) | exact HB.out)⟩⟩
                            · rw [if_neg c40] at H
                              exact absurd H (by simp)
                          · rw [if_neg c37] at H
                            exact absurd H (by simp)
                        · rw [if_neg c36] at H
                          exact absurd H (by simp)
                      · rw [if_neg c35] at H
                        exact absurd H (by simp)
                    · rw [if_neg c34] at H
                      exact absurd H (by simp)
            · replace c13 := Bool.eq_false_iff.mpr c13
              subst c13
              have H1 : (numnahref06_Forts.l0 kj4 l0 x3_1 (wrap64 (x4_1 + 1))) = some r := by rw [if_neg (show ¬ (false = true) by decide)] at H; exact H
              clear H
              have H := H1
              clear H1
              have H' := Aside0.mk H
              clear H
              go_wp2
              go_roundg kj4
              case measure => have := HK1.out; have := HJ4.out; omega
              case rel => exact ⟨(x3_1), (wrap64 (x4_1 + 1)), (by first | rfl | (simp; done) | (simp [*]; done)), H', ⟨by have := HK1.out; have := HJ4.out; omega⟩, ⟨by (with_reducible repeat (first | apply Kd.R_alloc | apply Kd.R_drewN | apply Kd.R_drew)); exact HO_3.out⟩, ⟨by repeat (first | (with_reducible first | exact HB.out | apply below_alloc | apply pw_below_drewN | apply below_drew1) | exact HB.out)⟩⟩
      · rw [if_neg c3] at H
        have c3b0 : decide (x4_1 < (ji2)) = false := decide_eq_false c3
        clear c3
        obtain rfl := Option.some.inj H
        go_wp2
        go_ret
        exact ⟨_, by first | rfl | (simp [errW_none, errW_some] <;> rfl) | (simp only [← hji2]; first | rfl | (simp [errW_none, errW_some] <;> rfl)) | (simp [*, errW_none, errW_some] <;> rfl), by (with_reducible repeat (first | apply Kd.R_alloc | apply Kd.R_drewN | apply Kd.R_drew)); exact HO_3.out, by repeat (first | (with_reducible first | exact HB.out | apply below_alloc | apply pw_below_drewN | apply below_drew1) | exact HB.out)⟩
def numnahref06_All.f (l0 : List Int) : Option (Int) := some (wrap64 ((shl .i64 1 (l0.length : Int)) - 1))
set_option maxHeartbeats 8000000 in
set_option maxRecDepth 100000 in
theorem numnahref06_All.calls (A0 : Option Addr) (c0 : Nat) (l0 : List Int) (r : Int) (w : World) (hr0 : Kd.C (Kd.int .i64) w A0 l0.length l0) (hc0 : l0.length ≤ c0) (h : numnahref06_All.f l0 = some r) :
    Calls Tryd.prog 47 #[.slice A0 l0.length c0] w fun e w' => e = .returned (.int .i64 r) ∧ Drawn0 w w' := by
  have HR0 := Aside0.mk hr0
  have HC0 := Aside0.mk hc0
  clear hr0 hc0
  have H : (some (wrap64 ((shl .i64 1 (l0.length : Int)) - 1))) = some r := h
  clear h
  obtain ⟨ji2, hji2⟩ : ∃ j_ : Int, (shl .i64 1 (l0.length : Int)) = j_ := ⟨_, rfl⟩
  replace H : (some (wrap64 ((ji2) - 1))) = some r := by first | (rw [hji2] at H; exact H) | (simp only [hji2] at H ⊢; exact H)
  have hji2_ : (IntKind.i64.wrap (1 * 2 ^ min (l0.length : Int).toNat 64)) = ji2 := hji2
  have hji2z : (l0.length : Int) ≤ 64 → (IntKind.i64.wrap (1 * 2 ^ (l0.length : Int).toNat)) = ji2 := shl_small hji2
  have hji2p : (IntKind.i64.wrap (1 * 2 ^ min l0.length 64)) = ji2 := hji2_
  have hji2q : (l0.length : Int) ≤ 64 → (IntKind.i64.wrap (1 * 2 ^ l0.length)) = ji2 := hji2z
  have hji2r : (IntKind.i64.wrap (2 ^ min l0.length 64)) = ji2 := by have h_ := hji2p; rw [Int.one_mul] at h_; exact h_
  have hji2s : (l0.length : Int) ≤ 64 → (IntKind.i64.wrap (2 ^ l0.length)) = ji2 := fun hle_ => by have h_ := hji2q hle_; rw [Int.one_mul] at h_; exact h_
  have hji2u : (IntKind.i64.wrap (2 ^ min (l0.length : Int).toNat 64)) = ji2 := by have h_ := hji2_; rw [Int.one_mul] at h_; exact h_
  have hji2v : (l0.length : Int) ≤ 64 → (IntKind.i64.wrap (2 ^ (l0.length : Int).toNat)) = ji2 := fun hle_ => by have h_ := hji2z hle_; rw [Int.one_mul] at h_; exact h_
  have hji2y : (wrap64 (1 * 2 ^ min (l0.length : Int).toNat 64)) = ji2 := (i64_w _).symm.trans hji2_
  have hji2x : (l0.length : Int) ≤ 64 → (wrap64 (1 * 2 ^ (l0.length : Int).toNat)) = ji2 := fun h_ => (i64_w _).symm.trans (hji2z h_)
  obtain rfl := Option.some.inj H
  go_enter Tryd.func47, Tryd.ntmps47
  go_wp2
  go_ret
  exact ⟨by first | rfl | (simp; done) | (simp only [← hji2] <;> (first | rfl | simp)) | (simp [*]; done), by repeat (first | exact Drawn0.refl _ | apply Drawn0.step)⟩
end Go.Proofs.YtpbeaaihdmfnlaaDoor.G

/- ### Gx6 -/
namespace Go.Proofs.YtpbeaaihdmfnlaaDoor.G
open Go.RowKit Go.Proofs.YtpbeaaihdmfnlaaDoorW.PrintWords Go.Proofs.YtpbeaaihdmfnlaaDoorW.PrintLast Go.Proofs.YtpbeaaihdmfnlaaDoorW.PrintMore
attribute [local go_sem] max2_int min2_int max_two min_two max_three min_three max_four min_four   -- for this text's walks alone
set_option linter.unusedVariables false
set_option linter.unusedSimpArgs false
def numnahref06_forced.l0 : Nat → List Int → Int → Int → Int → Option (Int)
  | 0, _, _, _, _ => none
  | k + 1, x0, x1, x5, x6 => if x6 < (x0.length : Int) then (if 0 ≤ x6 then (if (Int.tmod (shr .i64 x1 x6) 2) = 1 then ((numnahref06_Count.f k (Go.bits .andNot .i64 (rd x0 x6) x1)).bind fun t177 => (if t177 = 1 then (numnahref06_forced.l0 k x0 x1 (Go.bits .or .i64 x5 (Go.bits .andNot .i64 (rd x0 x6) x1)) (wrap64 (x6 + 1))) else (numnahref06_forced.l0 k x0 x1 x5 (wrap64 (x6 + 1))))) else (numnahref06_forced.l0 k x0 x1 x5 (wrap64 (x6 + 1)))) else (none)) else (some x5)
def numnahref06_forced.f (k : Nat) (l0 : List Int) (a1 : Int) : Option (Int) := numnahref06_forced.l0 k l0 a1 0 0
theorem numnahref06_forced.mono_l : ∀ k, (∀ y0 y1 y2 y3, LeO (numnahref06_forced.l0 k y0 y1 y2 y3) (numnahref06_forced.l0 (k + 1) y0 y1 y2 y3))
  | 0 => fun _ _ _ _ r h => by simp [numnahref06_forced.l0] at h
  | k + 1 => by
    have ih0 := numnahref06_forced.mono_l k
    · intro y0 y1 y2 y3
      unfold numnahref06_forced.l0
      repeat' first
      | (with_reducible exact ih0 _ _ _ _)
      | (with_reducible exact numnahref06_Count.mono _ _)
      | (with_reducible exact LeO.refl _)
      | (with_reducible exact LeO.none _)
      | (with_reducible refine LeO.ite ?_ ?_)
      | (with_reducible refine LeO.bind ?_ (fun _ => ?_))
      | exact ih0 _ _ _ _
      | exact numnahref06_Count.mono _ _
      | exact LeO.none _
      | refine LeO.ite ?_ ?_
      | refine LeO.bind ?_ (fun _ => ?_)
theorem numnahref06_forced.mono : ∀ a0 a1 k, LeO (numnahref06_forced.f k a0 a1) (numnahref06_forced.f (k + 1) a0 a1) := by
  intro a0 a1 k
  have ih0 := numnahref06_forced.mono_l k
  unfold numnahref06_forced.f
  repeat' first
      | (with_reducible exact ih0 _ _ _ _)
      | (with_reducible exact numnahref06_Count.mono _ _)
      | (with_reducible exact LeO.refl _)
      | (with_reducible exact LeO.none _)
      | (with_reducible refine LeO.ite ?_ ?_)
      | (with_reducible refine LeO.bind ?_ (fun _ => ?_))
      | exact ih0 _ _ _ _
      | exact numnahref06_Count.mono _ _
      | exact LeO.none _
      | refine LeO.ite ?_ ?_
      | refine LeO.bind ?_ (fun _ => ?_)
set_option maxHeartbeats 8000000 in
set_option maxRecDepth 100000 in
theorem numnahref06_forced.calls (k : Nat) (A0 : Option Addr) (c0 : Nat) (l0 : List Int) (a1 : Int) (r : Int) (w : World) (hr0 : Kd.C (Kd.int .i64) w A0 l0.length l0) (hc0 : l0.length ≤ c0) (h : numnahref06_forced.f k l0 a1 = some r) :
    Calls Tryd.prog 70 #[.slice A0 l0.length c0, .int .i64 a1] w fun e w' => e = .returned (.int .i64 r) ∧ Below w.heap.size w w' := by
  have HR0 := Aside0.mk hr0
  have HC0 := Aside0.mk hc0
  clear hr0 hc0
  have HB := Aside0.mk (Below.refl w.heap.size w)
  have H : (numnahref06_forced.l0 k l0 a1 0 0) = some r := h
  clear h
  have H' := Aside0.mk H
  clear H
  go_enter Tryd.func70, Tryd.ntmps70
  go_wp2
  go_loopg [5, 6] k (fun kq v5 v6 w' => ∃ (x5_1 : Int) (x6_1 : Int), v5 = .int .i64 x5_1 ∧ v6 = .int .i64 x6_1 ∧ Aside0 (numnahref06_forced.l0 kq l0 a1 x5_1 x6_1 = some r) ∧ Aside0 (kq ≤ k) ∧ Aside0 (Below w.heap.size w w'))
  case atStart => exact ⟨(0), (0), (by first | rfl | (simp; done) | (simp [*]; done)), (by first | rfl | (simp; done) | (simp [*]; done)), H', ⟨Nat.le_refl _⟩, ⟨by repeat (first | (with_reducible first | exact HB.out | apply below_alloc | apply pw_below_drewN | apply below_drew1) | exact HB.out)⟩⟩
  case round =>
    clear H'
    try clear p2
    obtain ⟨x5_1, x6_1, rfl, rfl, HA, HK1, HB⟩ := hrel
    cases gk with
    | zero => exact absurd HA.out (by simp [numnahref06_forced.l0])
    | succ k1 =>
      have H := HA.out
      clear HA
      simp only [numnahref06_forced.l0] at H
      by_cases c3 : x6_1 < (l0.length : Int)
      · rw [if_pos c3] at H
        have c3b0 : decide (x6_1 < (l0.length : Int)) = true := decide_eq_true c3
        clear c3
        by_cases c4 : 0 ≤ x6_1
        · rw [if_pos c4] at H
          have c4b0 : decide (0 ≤ x6_1) = true := decide_eq_true c4
          clear c4
          have c5b0 := eq_true (of_decide_eq_true (by first | (with_reducible assumption) | assumption) : 0 ≤ x6_1)
          obtain ⟨ji6, hji6⟩ : ∃ j_ : Int, (shr .i64 a1 x6_1) = j_ := ⟨_, rfl⟩
          replace H : (if (Int.tmod (ji6) 2) = 1 then ((numnahref06_Count.f k1 (Go.bits .andNot .i64 (rd l0 x6_1) a1)).bind fun t177 => (if t177 = 1 then (numnahref06_forced.l0 k1 l0 a1 (Go.bits .or .i64 x5_1 (Go.bits .andNot .i64 (rd l0 x6_1) a1)) (wrap64 (x6_1 + 1))) else (numnahref06_forced.l0 k1 l0 a1 x5_1 (wrap64 (x6_1 + 1))))) else (numnahref06_forced.l0 k1 l0 a1 x5_1 (wrap64 (x6_1 + 1)))) = some r := by first | (rw [hji6] at H; exact H) | (simp only [hji6] at H ⊢; exact H)
          have hji6_ : (a1 / 2 ^ min x6_1.toNat 64) = ji6 := hji6
          have hji6z : x6_1 ≤ 64 → (a1 / 2 ^ x6_1.toNat) = ji6 := shr_small hji6
          by_cases c7 : (Int.tmod (ji6) 2) = 1
          · rw [if_pos c7] at H
            have c7b0 : ((Int.tmod (ji6) 2) == 1) = true := beq_iff_eq.mpr c7
            have c7b1 : ((Int.tmod (ji6) 2) != 1) = false := bne_eq_false_iff_eq.mpr c7
            clear c7
            replace H := Option.bind_eq_some_iff.mp H
            obtain ⟨t177, A80, H⟩ := H
            replace H : (if t177 = 1 then (numnahref06_forced.l0 k1 l0 a1 (Go.bits .or .i64 x5_1 (Go.bits .andNot .i64 (rd l0 x6_1) a1)) (wrap64 (x6_1 + 1))) else (numnahref06_forced.l0 k1 l0 a1 x5_1 (wrap64 (x6_1 + 1)))) = some r := H
            have A8 := Aside0.mk A80
            clear A80
            by_cases c9 : t177 = 1
            · rw [if_pos c9] at H
              have c9b0 : (t177 == 1) = true := beq_iff_eq.mpr c9
              have c9b1 : (t177 != 1) = false := bne_eq_false_iff_eq.mpr c9
              clear c9
              have H' := Aside0.mk H
              clear H
              have p176 : 0 ≤ (x6_1 : Int) := of_decide_eq_true (by first | (with_reducible assumption) | assumption)
              have q176 : x6_1 < (l0.length : Int) := of_decide_eq_true (by first | (with_reducible assumption) | assumption)
              obtain ⟨ad176, e176, hx176_0⟩ := Kd.at_int HR0.out x6_1 p176 q176
              cases e176
              replace hx176_0 := (HB.out.cell (World.block_lt_of_cell? w _ hx176_0)).trans hx176_0
              replace p176 := eq_true p176
              replace q176 := eq_true q176
              go_wp2_with (first | (go_at_call 41; (with_reducible refine (numnahref06_Count.calls k1 (Go.bits .andNot .i64 (rd l0 x6_1) a1) t177 _ A8.out).mono ?_); rintro e w10 ⟨rfl, hb⟩; have n0_ := Aside0.mk (below_step (by repeat (first | (with_reducible first | exact HB.out | apply below_alloc | apply pw_below_drewN | apply below_drew1) | exact HB.out)) hb); clear HB; have HB := n0_; clear n0_; (try clear hb); (try clear hb2); (try clear hk); (try clear hi)))
              go_roundg k1
              case measure => have := HK1.out; omega
              case rel => exact ⟨(Go.bits .or .i64 x5_1 (Go.bits .andNot .i64 (rd l0 x6_1) a1)), (wrap64 (x6_1 + 1)), (by first | rfl | (simp; done) | (simp [*]; done)), (by first | rfl | (simp; done) | (simp [*]; done)), H', ⟨by have := HK1.out; omega⟩, ⟨by repeat (first | (with_reducible first | exact HB.out | apply below_alloc | apply pw_below_drewN | apply below_drew1) | exact HB.out)⟩⟩
            · rw [if_neg c9] at H
              have c9b0 : (t177 == 1) = false := beq_eq_false_iff_ne.mpr c9
              have c9b1 : (t177 != 1) = true := bne_iff_ne.mpr c9
              have H' := Aside0.mk H
              clear H
              have p176 : 0 ≤ (x6_1 : Int) := of_decide_eq_true (by first | (with_reducible assumption) | assumption)
              have q176 : x6_1 < (l0.length : Int) := of_decide_eq_true (by first | (with_reducible assumption) | assumption)
              obtain ⟨ad176, e176, hx176_0⟩ := Kd.at_int HR0.out x6_1 p176 q176
              cases e176
              replace hx176_0 := (HB.out.cell (World.block_lt_of_cell? w _ hx176_0)).trans hx176_0
              replace p176 := eq_true p176
              replace q176 := eq_true q176
              go_wp2_with (first | (go_at_call 41; (with_reducible refine (numnahref06_Count.calls k1 (Go.bits .andNot .i64 (rd l0 x6_1) a1) t177 _ A8.out).mono ?_); rintro e w11 ⟨rfl, hb⟩; have n0_ := Aside0.mk (below_step (by repeat (first | (with_reducible first | exact HB.out | apply below_alloc | apply pw_below_drewN | apply below_drew1) | exact HB.out)) hb); clear HB; have HB := n0_; clear n0_; (try clear hb); (try clear hb2); (try clear hk); (try clear hi)))
              go_roundg k1
              case measure => have := HK1.out; omega
              case rel => exact ⟨(x5_1), (wrap64 (x6_1 + 1)), (by first | rfl | (simp; done) | (simp [*]; done)), (by first | rfl | (simp; done) | (simp [*]; done)), H', ⟨by have := HK1.out; omega⟩, ⟨by repeat (first | (with_reducible first | exact HB.out | apply below_alloc | apply pw_below_drewN | apply below_drew1) | exact HB.out)⟩⟩
          · rw [if_neg c7] at H
            have c7b0 : ((Int.tmod (ji6) 2) == 1) = false := beq_eq_false_iff_ne.mpr c7
            have c7b1 : ((Int.tmod (ji6) 2) != 1) = true := bne_iff_ne.mpr c7
            have H' := Aside0.mk H
            clear H
            have p176 : 0 ≤ (x6_1 : Int) := of_decide_eq_true (by first | (with_reducible assumption) | assumption)
            have q176 : x6_1 < (l0.length : Int) := of_decide_eq_true (by first | (with_reducible assumption) | assumption)
            obtain ⟨ad176, e176, hx176_0⟩ := Kd.at_int HR0.out x6_1 p176 q176
            cases e176
            replace hx176_0 := (HB.out.cell (World.block_lt_of_cell? w _ hx176_0)).trans hx176_0
            replace p176 := eq_true p176
            replace q176 := eq_true q176
            go_wp2
            go_roundg k1
            case measure => have := HK1.out; omega
            case rel => exact ⟨(x5_1), (wrap64 (x6_1 + 1)), (by first | rfl | (simp; done) | (simp [*]; done)), (by first | rfl | (simp; done) | (simp [*]; done)), H', ⟨by have := HK1.out; omega⟩, ⟨by repeat (first | (with_reducible first | exact HB.out | apply below_alloc | apply pw_below_drewN | apply below_drew1) | exact HB.out)⟩⟩
        · rw [if_neg c4] at H
          exact absurd H (by simp)
      · rw [if_neg c3] at H
        have c3b0 : decide (x6_1 < (l0.length : Int)) = false := decide_eq_false c3
        clear c3
        obtain rfl := Option.some.inj H
        go_wp2
        go_ret
        exact ⟨by first | rfl | (simp [errW_none, errW_some] <;> rfl) | (simp [*, errW_none, errW_some] <;> rfl), by repeat (first | (with_reducible first | exact HB.out | apply below_alloc | apply pw_below_drewN | apply below_drew1) | exact HB.out)⟩
mutual
def numnahref06_Close.l0 : Nat → List Int → Int → List Int → Int → Option (Int × List Int)
  | 0, _, _, _, _ => none
  | k + 1, x0, x1, x6, x7 => if x7 < (x0.length : Int) then (if 0 ≤ x7 then (if x7 < (x6.length : Int) then (numnahref06_Close.l0 k x0 x1 (x6.set (x7 : Int).toNat (wrap64 ((Int.tmod (shr .i64 x1 x7) 2) - 1))) (wrap64 (x7 + 1))) else (none)) else (none)) else (numnahref06_Close.l1 k x0 x6 x1 1)
def numnahref06_Close.l1 : Nat → List Int → List Int → Int → Int → Option (Int × List Int)
  | 0, _, _, _, _ => none
  | k + 1, x0, x6, x8, x9 => (numnahref06_forced.f k x0 x8).bind fun t182 => (if t182 = 0 then (some (x8, x6)) else ((numnahref06_forced.f k x0 x8).bind fun t183 => (numnahref06_Close.l2 k x0 x6 x8 x9 t183 0)))
def numnahref06_Close.l2 : Nat → List Int → List Int → Int → Int → Int → Int → Option (Int × List Int)
  | 0, _, _, _, _, _, _ => none
  | k + 1, x0, x6, x8, x9, x10, x11 => if x11 < (x0.length : Int) then (if 0 ≤ x11 then (if (Int.tmod (shr .i64 x10 x11) 2) = 1 then (if x11 < (x6.length : Int) then (numnahref06_Close.l2 k x0 (x6.set (x11 : Int).toNat x9) x8 x9 x10 (wrap64 (x11 + 1))) else (none)) else (numnahref06_Close.l2 k x0 x6 x8 x9 x10 (wrap64 (x11 + 1)))) else (none)) else (numnahref06_Close.l1 k x0 x6 (Go.bits .or .i64 x8 x10) (wrap64 (x9 + 1)))
end
def numnahref06_Close.f (k : Nat) (l0 : List Int) (a1 : Int) : Option (Int × List Int) := if 0 ≤ (l0.length : Int) then (if ((l0.length : Int) : Int).toNat ≤ 35184372088832 then (numnahref06_Close.l0 k l0 a1 (List.replicate ((l0.length : Int) : Int).toNat 0) 0) else (none)) else (none)
theorem numnahref06_Close.mono_l : ∀ k, (∀ y0 y1 y2 y3, LeO (numnahref06_Close.l0 k y0 y1 y2 y3) (numnahref06_Close.l0 (k + 1) y0 y1 y2 y3)) ∧ (∀ y0 y1 y2 y3, LeO (numnahref06_Close.l1 k y0 y1 y2 y3) (numnahref06_Close.l1 (k + 1) y0 y1 y2 y3)) ∧ (∀ y0 y1 y2 y3 y4 y5, LeO (numnahref06_Close.l2 k y0 y1 y2 y3 y4 y5) (numnahref06_Close.l2 (k + 1) y0 y1 y2 y3 y4 y5))
  | 0 => ⟨fun _ _ _ _ r h => by simp [numnahref06_Close.l0] at h, fun _ _ _ _ r h => by simp [numnahref06_Close.l1] at h, fun _ _ _ _ _ _ r h => by simp [numnahref06_Close.l2] at h⟩
  | k + 1 => by
    obtain ⟨ih0, ih1, ih2⟩ := numnahref06_Close.mono_l k
    refine ⟨?_, ?_, ?_⟩
    · intro y0 y1 y2 y3
      unfold numnahref06_Close.l0
      repeat' first
      | (with_reducible exact ih0 _ _ _ _)
      | (with_reducible exact ih1 _ _ _ _)
      | (with_reducible exact ih2 _ _ _ _ _ _)
      | (with_reducible exact numnahref06_forced.mono _ _ _)
      | (with_reducible exact LeO.refl _)
      | (with_reducible exact LeO.none _)
      | (with_reducible refine LeO.ite ?_ ?_)
      | (with_reducible refine LeO.bind ?_ (fun _ => ?_))
      | exact ih0 _ _ _ _
      | exact ih1 _ _ _ _
      | exact ih2 _ _ _ _ _ _
      | exact numnahref06_forced.mono _ _ _
      | exact LeO.none _
      | refine LeO.ite ?_ ?_
      | refine LeO.bind ?_ (fun _ => ?_)
    · intro y0 y1 y2 y3
      unfold numnahref06_Close.l1
      repeat' first
      | (with_reducible exact ih0 _ _ _ _)
      | (with_reducible exact ih1 _ _ _ _)
      | (with_reducible exact ih2 _ _ _ _ _ _)
      | (with_reducible exact numnahref06_forced.mono _ _ _)
      | (with_reducible exact LeO.refl _)
      | (with_reducible exact LeO.none _)
      | (with_reducible refine LeO.ite ?_ ?_)
      | (with_reducible refine LeO.bind ?_ (fun _ => ?_))
      | exact ih0 _ _ _ _
      | exact ih1 _ _ _ _
      | exact ih2 _ _ _ _ _ _
      | exact numnahref06_forced.mono _ _ _
      | exact LeO.none _
      | refine LeO.ite ?_ ?_
      | refine LeO.bind ?_ (fun _ => ?_)
    · intro y0 y1 y2 y3 y4 y5
      unfold numnahref06_Close.l2
      repeat' first
      | (with_reducible exact ih0 _ _ _ _)
      | (with_reducible exact ih1 _ _ _ _)
      | (with_reducible exact ih2 _ _ _ _ _ _)
      | (with_reducible exact numnahref06_forced.mono _ _ _)
      | (with_reducible exact LeO.refl _)
      | (with_reducible exact LeO.none _)
      | (with_reducible refine LeO.ite ?_ ?_)
      | (with_reducible refine LeO.bind ?_ (fun _ => ?_))
      | exact ih0 _ _ _ _
      | exact ih1 _ _ _ _
      | exact ih2 _ _ _ _ _ _
      | exact numnahref06_forced.mono _ _ _
      | exact LeO.none _
      | refine LeO.ite ?_ ?_
      | refine LeO.bind ?_ (fun _ => ?_)
theorem numnahref06_Close.mono : ∀ a0 a1 k, LeO (numnahref06_Close.f k a0 a1) (numnahref06_Close.f (k + 1) a0 a1) := by
  intro a0 a1 k
  obtain ⟨ih0, ih1, ih2⟩ := numnahref06_Close.mono_l k
  unfold numnahref06_Close.f
  repeat' first
      | (with_reducible exact ih0 _ _ _ _)
      | (with_reducible exact ih1 _ _ _ _)
      | (with_reducible exact ih2 _ _ _ _ _ _)
      | (with_reducible exact numnahref06_forced.mono _ _ _)
      | (with_reducible exact LeO.refl _)
      | (with_reducible exact LeO.none _)
      | (with_reducible refine LeO.ite ?_ ?_)
      | (with_reducible refine LeO.bind ?_ (fun _ => ?_))
      | exact ih0 _ _ _ _
      | exact ih1 _ _ _ _
      | exact ih2 _ _ _ _ _ _
      | exact numnahref06_forced.mono _ _ _
      | exact LeO.none _
      | refine LeO.ite ?_ ?_
      | refine LeO.bind ?_ (fun _ => ?_)
set_option maxHeartbeats 8000000 in
set_option maxRecDepth 100000 in
theorem numnahref06_Close.calls (k : Nat) (A0 : Option Addr) (c0 : Nat) (l0 : List Int) (a1 : Int) (r1 : Int) (r2 : List Int) (w : World) (hr0 : Kd.C (Kd.int .i64) w A0 l0.length l0) (hc0 : l0.length ≤ c0) (h : numnahref06_Close.f k l0 a1 = some (r1, r2)) :
    Calls Tryd.prog 37 #[.slice A0 l0.length c0, .int .i64 a1] w fun e w' => ∃ v1_ : Value, e = .returned (.tuple #[.int .i64 r1, v1_]) ∧ Kd.R (Kd.int .i64) 3 w' w.heap.size (fun _ => True) v1_ r2 ∧ Below w.heap.size w w' := by
  have HR0 := Aside0.mk hr0
  have HC0 := Aside0.mk hc0
  clear hr0 hc0
  have HB := Aside0.mk (Below.refl w.heap.size w)
  have H : (if 0 ≤ (l0.length : Int) then (if ((l0.length : Int) : Int).toNat ≤ 35184372088832 then (numnahref06_Close.l0 k l0 a1 (List.replicate ((l0.length : Int) : Int).toNat 0) 0) else (none)) else (none)) = some (r1, r2) := h
  clear h
  by_cases c3 : 0 ≤ (l0.length : Int)
  · rw [if_pos c3] at H
    have c3b0 := eq_true c3
    have c3b1 : decide (0 ≤ (l0.length : Int)) = true := decide_eq_true c3
    clear c3
    by_cases c4 : ((l0.length : Int) : Int).toNat ≤ 35184372088832
    · rw [if_pos c4] at H
      have c4b0 := eq_true c4
      have c4b1 : decide (((l0.length : Int) : Int).toNat ≤ 35184372088832) = true := decide_eq_true c4
      clear c4
      obtain ⟨y178, hy178⟩ : ∃ y_ : List Int, y_ = (List.replicate ((l0.length : Int) : Int).toNat 0) := ⟨_, rfl⟩
      replace H : (numnahref06_Close.l0 k l0 a1 y178 0) = some (r1, r2) := by first | (rw [hy178]; with_reducible exact H) | (have H2_ := (Option.bind_some _ _).symm.trans H; rw [hy178]; with_reducible exact H2_) | (have H2_ := (Option.bind_some _ _).symm.trans H; with_reducible exact H2_) | with_reducible exact H | (rw [hy178]; exact H) | exact H
      have Ny178 := Aside0.mk hy178
      clear hy178
      have H' := Aside0.mk H
      clear H
      go_enter Tryd.func37, Tryd.ntmps37
      go_wp2_with (first | ((with_reducible refine gate_dst (N := 14) rfl ?_); refine Kd.R_make (Kd.int .i64) _ 3 rfl (N := 14) rfl 24 _ _ rfl (l0.length : Int) rfl rfl Tryd.underlying24 (.int .i64 0) 8 info3 rfl (by decide) (by omega) 0 (ok := fun _ => True) (okp := fun _ => True) rfl (fun _ hk => hk) trivial (of_decide_eq_true (by first | (with_reducible assumption) | assumption)) (Nat.le_trans (Nat.mul_le_mul_right _ (of_decide_eq_true (by first | (with_reducible assumption) | assumption) : (l0.length : Int).toNat ≤ 35184372088832)) (by omega)) (Below.refl _ _) (Nat.le_refl _) ?_; intro v179 w5 ho6 hb hg_ hnew_; clear hg_ hnew_; (first | rw [← Ny178.out] at ho6 | (simp only [Int.reduceToNat] at ho6; rw [← Ny178.out] at ho6)); have n0_ := Aside0.mk (Kd.R_lower ho6 (below_size (by repeat (first | (with_reducible first | exact HB.out | apply below_alloc | apply pw_below_drewN | apply below_drew1) | exact HB.out)))); have n1_ := Aside0.mk (below_step (by repeat (first | (with_reducible first | exact HB.out | apply below_alloc | apply pw_below_drewN | apply below_drew1) | exact HB.out)) hb); clear HB; have HO180 := n0_; have HB := n1_; clear n0_ n1_; clear hb ho6))
      go_loopg [7] k (fun kq v7 w' => ∃ (x6_1 : List Int) (x7_1 : Int), v7 = .int .i64 x7_1 ∧ Aside0 (numnahref06_Close.l0 kq l0 a1 x6_1 x7_1 = some (r1, r2)) ∧ Aside0 (kq ≤ k) ∧ Aside0 (Kd.R (Kd.int .i64) 3 w' w.heap.size (fun _ => True) v179 x6_1) ∧ Aside0 (Below w.heap.size w w'))
      case atStart => exact ⟨(y178), (0), (by first | rfl | (simp; done) | (simp [*]; done)), H', ⟨Nat.le_refl _⟩, ⟨by (with_reducible repeat (first | apply Kd.R_alloc | apply Kd.R_drewN | apply Kd.R_drew)); exact HO180.out⟩, ⟨by repeat (first | (with_reducible first | exact HB.out | apply below_alloc | apply pw_below_drewN | apply below_drew1) | exact HB.out)⟩⟩
      case round =>
        clear H'
        try clear p2
        try clear c3
        try clear c3b0
        try clear c3b1
        try clear c4
        try clear c4b0
        try clear c4b1
        obtain ⟨x6_1, x7_1, rfl, HA, HK1, HO_6, HB⟩ := hrel
        cases gk with
        | zero => exact absurd HA.out (by simp [numnahref06_Close.l0])
        | succ k1 =>
          have H := HA.out
          clear HA
          simp only [numnahref06_Close.l0] at H
          by_cases c7 : x7_1 < (l0.length : Int)
          · rw [if_pos c7] at H
            have c7b0 : decide (x7_1 < (l0.length : Int)) = true := decide_eq_true c7
            clear c7
            by_cases c8 : 0 ≤ x7_1
            · rw [if_pos c8] at H
              have c8b0 := eq_true c8
              have c8b1 : decide (0 ≤ x7_1) = true := decide_eq_true c8
              clear c8
              obtain ⟨ji9, hji9⟩ : ∃ j_ : Int, (shr .i64 a1 x7_1) = j_ := ⟨_, rfl⟩
              replace H : (if x7_1 < (x6_1.length : Int) then (numnahref06_Close.l0 k1 l0 a1 (x6_1.set (x7_1 : Int).toNat (wrap64 ((Int.tmod (ji9) 2) - 1))) (wrap64 (x7_1 + 1))) else (none)) = some (r1, r2) := by first | (rw [hji9] at H; exact H) | (simp only [hji9] at H ⊢; exact H)
              have hji9_ : (a1 / 2 ^ min x7_1.toNat 64) = ji9 := hji9
              have hji9z : x7_1 ≤ 64 → (a1 / 2 ^ x7_1.toNat) = ji9 := shr_small hji9
              by_cases c10 : x7_1 < (x6_1.length : Int)
              · rw [if_pos c10] at H
                have c10b0 : decide (x7_1 < (x6_1.length : Int)) = true := decide_eq_true c10
                clear c10
                obtain ⟨y181, hy181⟩ : ∃ y_ : List Int, y_ = (x6_1.set (x7_1 : Int).toNat (wrap64 ((Int.tmod (ji9) 2) - 1))) := ⟨_, rfl⟩
                replace H : (numnahref06_Close.l0 k1 l0 a1 y181 (wrap64 (x7_1 + 1))) = some (r1, r2) := by first | (rw [hy181]; with_reducible exact H) | (have H2_ := (Option.bind_some _ _).symm.trans H; rw [hy181]; with_reducible exact H2_) | (have H2_ := (Option.bind_some _ _).symm.trans H; with_reducible exact H2_) | with_reducible exact H | (rw [hy181]; exact H) | exact H
                have Ny181 := Aside0.mk hy181
                clear hy181
                have H' := Aside0.mk H
                clear H
                have p11 : 0 ≤ (x7_1 : Int) := of_decide_eq_true (by first | (with_reducible assumption) | assumption)
                have q11 : (x7_1 : Int) < ((x6_1.length : Int) : Int) := of_decide_eq_true (by first | (with_reducible assumption) | assumption)
                obtain ⟨go11, co11, eo11, gb11, gl11, cl11, HG11⟩ := Kd.R_form HO_6.out (by omega)
                (first | cases eo11 | (injection eo11 with ea_ en_ ec_; (first | subst ea_ | (injection ea_ with ea_; subst ea_)); subst ec_; clear en_))
                have GB11 := Aside0.mk gb11
                have GG11 := Aside0.mk HG11
                clear gb11 gl11 HG11
                obtain ⟨hx11_0, hf11_0⟩ := Kd.R_celln 0 HO_6.out (x7_1 : Int) p11 q11
                replace p11 := eq_true p11
                replace q11 := eq_true q11
                have HP12 := Kd.R_putg HO_6.out (x7_1 : Int) (wrap64 ((Int.tmod (ji9) 2) - 1))
                go_wp2_with (first | ((with_reducible refine gate_store (t := 3) (p := 28) rfl ?_); refine store_event (t := 3) (p := 28) (v := ?vo_w13) (w1 := (wr.setCell ⟨go11, (x7_1 : Int).toNat, none⟩ (.int .i64 (wrap64 ((Int.tmod (ji9) 2) - 1))))) ?hg ?ho ?hn ?hr ?_; (case ho => rfl); (case hg => rfl); (case hn => rfl); (case hr => first | (go_simp; done) | (go_simp; rfl)); intro w13 hw; have hg : wr.grownBy w13 (some go11) := (by rw [hw]; exact HP12.2); have hp_ : Kd.R (Kd.int .i64) 3 w13 w.heap.size (fun _ => True) (.slice (some ⟨go11, 0, none⟩) x6_1.length co11) y181 := (by rw [hw, Ny181.out]; exact HP12.1); clear HP12; have n0_ := Aside0.mk (hp_); have n1_ := Aside0.mk ((by rw [hw]; exact below_set (HB.out) GB11.out : Below w.heap.size w w13)); clear HO_6; clear HB; have HO_6 := n0_; have HB := n1_; clear n0_ n1_; clear hg hw hp_))
                go_roundg k1
                case measure => have := HK1.out; omega
                case rel => exact ⟨(y181), (wrap64 (x7_1 + 1)), (by first | rfl | (simp; done) | (simp [*]; done)), H', ⟨by have := HK1.out; omega⟩, ⟨by (with_reducible repeat (first | apply Kd.R_alloc | apply Kd.R_drewN | apply Kd.R_drew)); exact HO_6.out⟩, ⟨by repeat (first | (with_reducible first | exact HB.out | apply below_alloc | apply pw_below_drewN | apply below_drew1) | exact HB.out)⟩⟩
              · rw [if_neg c10] at H
                exact absurd H (by simp)
            · rw [if_neg c8] at H
              exact absurd H (by simp)
          · rw [if_neg c7] at H
            have c7b0 : decide (x7_1 < (l0.length : Int)) = false := decide_eq_false c7
            clear c7
            have H' := Aside0.mk H
            clear H
            go_wp2
            go_loopg [8, 9] k1 (fun kq v8 v9 w' => ∃ (x6_2 : List Int) (x8_2 : Int) (x9_2 : Int), v8 = .int .i64 x8_2 ∧ v9 = .int .i64 x9_2 ∧ Aside0 (numnahref06_Close.l1 kq l0 x6_2 x8_2 x9_2 = some (r1, r2)) ∧ Aside0 (kq ≤ k1) ∧ Aside0 (Kd.R (Kd.int .i64) 3 w' w.heap.size (fun _ => True) v179 x6_2) ∧ Aside0 (Below w.heap.size w w'))
            case atStart => exact ⟨(x6_1), (a1), (1), (by first | rfl | (simp; done) | (simp [*]; done)), (by first | rfl | (simp; done) | (simp [*]; done)), H', ⟨Nat.le_refl _⟩, ⟨by (with_reducible repeat (first | apply Kd.R_alloc | apply Kd.R_drewN | apply Kd.R_drew)); exact HO_6.out⟩, ⟨by repeat (first | (with_reducible first | exact HB.out | apply below_alloc | apply pw_below_drewN | apply below_drew1) | exact HB.out)⟩⟩
            case round =>
              clear H'
              try clear c1
              try clear p1
              try clear q1
              try clear hx1
              try clear p2
              try clear c3
              try clear c3b0
              try clear c3b1
              try clear c4
              try clear c4b0
              try clear c4b1
              try clear p6
              try clear c7
              try clear c7b0
              try clear c8
              try clear c8b0
              try clear c8b1
              try clear c10
              try clear c10b0
              try clear p11
              try clear q11
              try clear hx11
              try clear hf11
              try clear hx11_0
              try clear p11
              try clear p2
              try clear q11
              obtain ⟨x6_2, x8_2, x9_2, rfl, rfl, HA, HK2, HO_6, HB⟩ := hrel
              cases gk with
              | zero => exact absurd HA.out (by simp [numnahref06_Close.l1])
              | succ k2 =>
                have H := HA.out
                clear HA
                simp only [numnahref06_Close.l1] at H
                replace H := Option.bind_eq_some_iff.mp H
                obtain ⟨t182, A140, H⟩ := H
                replace H : (if t182 = 0 then (some (x8_2, x6_2)) else ((numnahref06_forced.f k2 l0 x8_2).bind fun t183 => (numnahref06_Close.l2 k2 l0 x6_2 x8_2 x9_2 t183 0))) = some (r1, r2) := H
                have A14 := Aside0.mk A140
                clear A140
                by_cases c15 : t182 = 0
                · rw [if_pos c15] at H
                  have c15b0 : (t182 == 0) = true := beq_iff_eq.mpr c15
                  have c15b1 : (t182 != 0) = false := bne_eq_false_iff_eq.mpr c15
                  clear c15
                  simp only [Option.some.injEq, Prod.mk.injEq] at H
                  obtain ⟨rfl, rfl⟩ := H
                  go_wp2_with (first | ((with_reducible refine gate_callee (f := 70) rfl ?_); refine goesL_ (some 32) rfl rfl Tryd.func70 (by kernel_rfl) rfl #[.slice A0 l0.length c0, .int .i64 x8_2] rfl (by (try simp only [List.map_toArray, List.map_cons, List.map_nil]); first | done | rfl | (simp only [List.length_drop, List.length_take]; rfl)) ?_; (with_reducible refine (numnahref06_forced.calls k2 _ _ l0 x8_2 t182 _ ?side1 ?side2 A14.out).mono ?_); (case side1 => repeat (first | exact (Kd.C_below HR0.out HB.out) | (with_reducible refine Kd.C_alloc ?_ _) | (with_reducible refine Kd.C_drewN ?_ _) | (with_reducible refine Kd.C_drew ?_))); (case side2 => exact HC0.out); rintro e w16 ⟨rfl, hb⟩; refine ⟨_, rfl, ?_⟩; have n0_ := Aside0.mk (Kd.R_below (by (with_reducible repeat (first | apply Kd.R_alloc | apply Kd.R_drewN | apply Kd.R_drew)); exact HO_6.out) hb); have n1_ := Aside0.mk (below_step (by repeat (first | (with_reducible first | exact HB.out | apply below_alloc | apply pw_below_drewN | apply below_drew1) | exact HB.out)) hb); clear HO_6; clear HB; have HO_6 := n0_; have HB := n1_; clear n0_ n1_; (try clear hb); (try clear hb2); (try clear hk); (try clear hi)))
                  go_ret2
                  exact ⟨_, by first | rfl | (simp [errW_none, errW_some] <;> rfl) | (simp [*, errW_none, errW_some] <;> rfl), by (with_reducible repeat (first | apply Kd.R_alloc | apply Kd.R_drewN | apply Kd.R_drew)); exact HO_6.out, by repeat (first | (with_reducible first | exact HB.out | apply below_alloc | apply pw_below_drewN | apply below_drew1) | exact HB.out)⟩
                · rw [if_neg c15] at H
                  have c15b0 : (t182 == 0) = false := beq_eq_false_iff_ne.mpr c15
                  have c15b1 : (t182 != 0) = true := bne_iff_ne.mpr c15
                  replace H := Option.bind_eq_some_iff.mp H
                  obtain ⟨t183, A170, H⟩ := H
                  replace H : (numnahref06_Close.l2 k2 l0 x6_2 x8_2 x9_2 t183 0) = some (r1, r2) := H
                  have A17 := Aside0.mk A170
                  clear A170
                  have H' := Aside0.mk H
                  clear H
                  go_wp2_with (first | ((with_reducible refine gate_callee (f := 70) rfl ?_); refine goesL_ (some 32) rfl rfl Tryd.func70 (by kernel_rfl) rfl #[.slice A0 l0.length c0, .int .i64 x8_2] rfl (by (try simp only [List.map_toArray, List.map_cons, List.map_nil]); first | done | rfl | (simp only [List.length_drop, List.length_take]; rfl)) ?_; (with_reducible refine (numnahref06_forced.calls k2 _ _ l0 x8_2 t182 _ ?side1 ?side2 A14.out).mono ?_); (case side1 => repeat (first | exact (Kd.C_below HR0.out HB.out) | (with_reducible refine Kd.C_alloc ?_ _) | (with_reducible refine Kd.C_drewN ?_ _) | (with_reducible refine Kd.C_drew ?_))); (case side2 => exact HC0.out); rintro e w18 ⟨rfl, hb⟩; refine ⟨_, rfl, ?_⟩; have n0_ := Aside0.mk (Kd.R_below (by (with_reducible repeat (first | apply Kd.R_alloc | apply Kd.R_drewN | apply Kd.R_drew)); exact HO_6.out) hb); have n1_ := Aside0.mk (below_step (by repeat (first | (with_reducible first | exact HB.out | apply below_alloc | apply pw_below_drewN | apply below_drew1) | exact HB.out)) hb); clear HO_6; clear HB; have HO_6 := n0_; have HB := n1_; clear n0_ n1_; (try clear hb); (try clear hb2); (try clear hk); (try clear hi)) | ((with_reducible refine gate_callee (f := 70) rfl ?_); refine goesL_ (some 38) rfl rfl Tryd.func70 (by kernel_rfl) rfl #[.slice A0 l0.length c0, .int .i64 x8_2] rfl (by (try simp only [List.map_toArray, List.map_cons, List.map_nil]); first | done | rfl | (simp only [List.length_drop, List.length_take]; rfl)) ?_; (with_reducible refine (numnahref06_forced.calls k2 _ _ l0 x8_2 t183 _ ?side1 ?side2 A17.out).mono ?_); (case side1 => repeat (first | exact (Kd.C_below HR0.out HB.out) | (with_reducible refine Kd.C_alloc ?_ _) | (with_reducible refine Kd.C_drewN ?_ _) | (with_reducible refine Kd.C_drew ?_))); (case side2 => exact HC0.out); rintro e w19 ⟨rfl, hb⟩; refine ⟨_, rfl, ?_⟩; have n0_ := Aside0.mk (Kd.R_below (by (with_reducible repeat (first | apply Kd.R_alloc | apply Kd.R_drewN | apply Kd.R_drew)); exact HO_6.out) hb); have n1_ := Aside0.mk (below_step (by repeat (first | (with_reducible first | exact HB.out | apply below_alloc | apply pw_below_drewN | apply below_drew1) | exact HB.out)) hb); clear HO_6; clear HB; have HO_6 := n0_; have HB := n1_; clear n0_ n1_; (try clear hb); (try clear hb2); (try clear hk); (try clear hi)))
                  go_loopg [11] k2 (fun kq v11 w' => ∃ (x6_3 : List Int) (x11_3 : Int), v11 = .int .i64 x11_3 ∧ Aside0 (numnahref06_Close.l2 kq l0 x6_3 x8_2 x9_2 t183 x11_3 = some (r1, r2)) ∧ Aside0 (kq ≤ k2) ∧ Aside0 (Kd.R (Kd.int .i64) 3 w' w.heap.size (fun _ => True) v179 x6_3) ∧ Aside0 (Below w.heap.size w w'))
                  case atStart => exact ⟨(x6_2), (0), (by first | rfl | (simp; done) | (simp [*]; done)), H', ⟨Nat.le_refl _⟩, ⟨by (with_reducible repeat (first | apply Kd.R_alloc | apply Kd.R_drewN | apply Kd.R_drew)); exact HO_6.out⟩, ⟨by repeat (first | (with_reducible first | exact HB.out | apply below_alloc | apply pw_below_drewN | apply below_drew1) | exact HB.out)⟩⟩
                  case round =>
                    clear H'
                    try clear c1
                    try clear p1
                    try clear q1
                    try clear hx1
                    try clear p2
                    try clear c3
                    try clear c3b0
                    try clear c3b1
                    try clear c4
                    try clear c4b0
                    try clear c4b1
                    try clear p6
                    try clear c7
                    try clear c7b0
                    try clear c8
                    try clear c8b0
                    try clear c8b1
                    try clear c10
                    try clear c10b0
                    try clear p11
                    try clear q11
                    try clear hx11
                    try clear hf11
                    try clear c15
                    try clear c15b0
                    try clear c15b1
                    try clear hx11_0
                    try clear p1
                    try clear p11
                    try clear p2
                    try clear p6
                    try clear q1
                    try clear q11
                    obtain ⟨x6_3, x11_3, rfl, HA, HK3, HO_6, HB⟩ := hrel
                    cases gk with
                    | zero => exact absurd HA.out (by simp [numnahref06_Close.l2])
                    | succ k3 =>
                      have H := HA.out
                      clear HA
                      simp only [numnahref06_Close.l2] at H
                      by_cases c20 : x11_3 < (l0.length : Int)
                      · rw [if_pos c20] at H
                        have c20b0 : decide (x11_3 < (l0.length : Int)) = true := decide_eq_true c20
                        clear c20
                        by_cases c21 : 0 ≤ x11_3
                        · rw [if_pos c21] at H
                          have c21b0 := eq_true c21
                          have c21b1 : decide (0 ≤ x11_3) = true := decide_eq_true c21
                          clear c21
                          obtain ⟨ji22, hji22⟩ : ∃ j_ : Int, (shr .i64 t183 x11_3) = j_ := ⟨_, rfl⟩
                          replace H : (if (Int.tmod (ji22) 2) = 1 then (if x11_3 < (x6_3.length : Int) then (numnahref06_Close.l2 k3 l0 (x6_3.set (x11_3 : Int).toNat x9_2) x8_2 x9_2 t183 (wrap64 (x11_3 + 1))) else (none)) else (numnahref06_Close.l2 k3 l0 x6_3 x8_2 x9_2 t183 (wrap64 (x11_3 + 1)))) = some (r1, r2) := by first | (rw [hji22] at H; exact H) | (simp only [hji22] at H ⊢; exact H)
                          have hji22_ : (t183 / 2 ^ min x11_3.toNat 64) = ji22 := hji22
                          have hji22z : x11_3 ≤ 64 → (t183 / 2 ^ x11_3.toNat) = ji22 := shr_small hji22
                          by_cases c23 : (Int.tmod (ji22) 2) = 1
                          · rw [if_pos c23] at H
                            have c23b0 : ((Int.tmod (ji22) 2) == 1) = true := beq_iff_eq.mpr c23
                            have c23b1 : ((Int.tmod (ji22) 2) != 1) = false := bne_eq_false_iff_eq.mpr c23
                            clear c23
                            by_cases c24 : x11_3 < (x6_3.length : Int)
                            · rw [if_pos c24] at H
                              have c24b0 : decide (x11_3 < (x6_3.length : Int)) = true := decide_eq_true c24
                              clear c24
                              obtain ⟨y184, hy184⟩ : ∃ y_ : List Int, y_ = (x6_3.set (x11_3 : Int).toNat x9_2) := ⟨_, rfl⟩
                              replace H : (numnahref06_Close.l2 k3 l0 y184 x8_2 x9_2 t183 (wrap64 (x11_3 + 1))) = some (r1, r2) := by first | (rw [hy184]; with_reducible exact H) | (have H2_ := (Option.bind_some _ _).symm.trans H; rw [hy184]; with_reducible exact H2_) | (have H2_ := (Option.bind_some _ _).symm.trans H; with_reducible exact H2_) | with_reducible exact H | (rw [hy184]; exact H) | exact H
                              have Ny184 := Aside0.mk hy184
                              clear hy184
                              have H' := Aside0.mk H
                              clear H
                              have p25 : 0 ≤ (x11_3 : Int) := of_decide_eq_true (by first | (with_reducible assumption) | assumption)
                              have q25 : (x11_3 : Int) < ((x6_3.length : Int) : Int) := of_decide_eq_true (by first | (with_reducible assumption) | assumption)
                              obtain ⟨go25, co25, eo25, gb25, gl25, cl25, HG25⟩ := Kd.R_form HO_6.out (by omega)
                              (first | cases eo25 | (injection eo25 with ea_ en_ ec_; (first | subst ea_ | (injection ea_ with ea_; subst ea_)); subst ec_; clear en_))
                              have GB25 := Aside0.mk gb25
                              have GG25 := Aside0.mk HG25
                              clear gb25 gl25 HG25
                              obtain ⟨hx25_0, hf25_0⟩ := Kd.R_celln 0 HO_6.out (x11_3 : Int) p25 q25
                              replace p25 := eq_true p25
                              replace q25 := eq_true q25
                              have HP26 := Kd.R_putg HO_6.out (x11_3 : Int) x9_2
                              go_wp2_with (first | ((with_reducible refine gate_store (t := 3) (p := 53) rfl ?_); refine store_event (t := 3) (p := 53) (v := ?vo_w27) (w1 := (wr.setCell ⟨go25, (x11_3 : Int).toNat, none⟩ (.int .i64 x9_2))) ?hg ?ho ?hn ?hr ?_; (case ho => rfl); (case hg => rfl); (case hn => rfl); (case hr => first | (go_simp; done) | (go_simp; rfl)); intro w27 hw; have hg : wr.grownBy w27 (some go25) := (by rw [hw]; exact HP26.2); have hp_ : Kd.R (Kd.int .i64) 3 w27 w.heap.size (fun _ => True) (.slice (some ⟨go25, 0, none⟩) x6_3.length co25) y184 := (by rw [hw, Ny184.out]; exact HP26.1); clear HP26; have n0_ := Aside0.mk (hp_); have n1_ := Aside0.mk ((by rw [hw]; exact below_set (HB.out) GB25.out : Below w.heap.size w w27)); clear HO_6; clear HB; have HO_6 := n0_; have HB := n1_; clear n0_ n1_; clear hg hw hp_))
                              go_roundg k3
                              case measure => have := HK1.out; have := HK2.out; have := HK3.out; omega
                              case rel => exact ⟨(y184), (wrap64 (x11_3 + 1)), (by first | rfl | (simp; done) | (simp [*]; done)), H', ⟨by have := HK1.out; have := HK2.out; have := HK3.out; omega⟩, ⟨by (with_reducible repeat (first | apply Kd.R_alloc | apply Kd.R_drewN | apply Kd.R_drew)); exact HO_6.out⟩, ⟨by repeat (first | (with_reducible first | exact HB.out | apply below_alloc | apply pw_below_drewN | apply below_drew1) | exact HB.out)⟩⟩
                            · rw [if_neg c24] at H
                              exact absurd H (by simp)
                          · rw [if_neg c23] at H
                            have c23b0 : ((Int.tmod (ji22) 2) == 1) = false := beq_eq_false_iff_ne.mpr c23
                            have c23b1 : ((Int.tmod (ji22) 2) != 1) = true := bne_iff_ne.mpr c23
                            have H' := Aside0.mk H
                            clear H
                            go_wp2
                            go_roundg k3
                            case measure => have := HK1.out; have := HK2.out; have := HK3.out; omega
                            case rel => exact ⟨(x6_3), (wrap64 (x11_3 + 1)), (by first | rfl | (simp; done) | (simp [*]; done)), H', ⟨by have := HK1.out; have := HK2.out; have := HK3.out; omega⟩, ⟨by (with_reducible repeat (first | apply Kd.R_alloc | apply Kd.R_drewN | apply Kd.R_drew)); exact HO_6.out⟩, ⟨by repeat (first | (with_reducible first | exact HB.out | apply below_alloc | apply pw_below_drewN | apply below_drew1) | exact HB.out)⟩⟩
                        · rw [if_neg c21] at H
                          exact absurd H (by simp)
                      · rw [if_neg c20] at H
                        have c20b0 : decide (x11_3 < (l0.length : Int)) = false := decide_eq_false c20
                        clear c20
                        have H' := Aside0.mk H
                        clear H
                        go_wp2
                        go_roundg k3
                        case measure => have := HK1.out; have := HK2.out; have := HK3.out; omega
                        case rel => exact ⟨(x6_3), (Go.bits .or .i64 x8_2 t183), (wrap64 (x9_2 + 1)), (by first | rfl | (simp; done) | (simp [*]; done)), (by first | rfl | (simp; done) | (simp [*]; done)), H', ⟨by have := HK1.out; have := HK2.out; have := HK3.out; omega⟩, ⟨by (with_reducible repeat (first | apply Kd.R_alloc | apply Kd.R_drewN | apply Kd.R_drew)); exact HO_6.out⟩, ⟨by repeat (first | (with_reducible first | exact HB.out | apply below_alloc | apply pw_below_drewN | apply below_drew1) | exact HB.out)⟩⟩
    · rw [if_neg c4] at H
      exact absurd H (by simp)
  · rw [if_neg c3] at H
    exact absurd H (by simp)
def numnahref06_Forcing.f (k : Nat) (l0 : List Int) (a1 : Int) : Option (Bool) := (numnahref06_Close.f k l0 a1).bind fun bt185 => ((numnahref06_All.f l0).bind fun t189 => (some (bt185.1 == t189)))
theorem numnahref06_Forcing.mono : ∀ a0 a1 k, LeO (numnahref06_Forcing.f k a0 a1) (numnahref06_Forcing.f (k + 1) a0 a1) := by
  intro a0 a1 k
  unfold numnahref06_Forcing.f
  repeat' first
      | (with_reducible exact numnahref06_Close.mono _ _ _)
      | (with_reducible exact LeO.refl _)
      | (with_reducible exact LeO.none _)
      | (with_reducible refine LeO.ite ?_ ?_)
      | (with_reducible refine LeO.bind ?_ (fun _ => ?_))
      | exact numnahref06_Close.mono _ _ _
      | exact LeO.none _
      | refine LeO.ite ?_ ?_
      | refine LeO.bind ?_ (fun _ => ?_)
set_option maxHeartbeats 8000000 in
set_option maxRecDepth 100000 in
theorem numnahref06_Forcing.calls (k : Nat) (A0 : Option Addr) (c0 : Nat) (l0 : List Int) (a1 : Int) (r : Bool) (w : World) (hr0 : Kd.C (Kd.int .i64) w A0 l0.length l0) (hc0 : l0.length ≤ c0) (h : numnahref06_Forcing.f k l0 a1 = some r) :
    Calls Tryd.prog 63 #[.slice A0 l0.length c0, .int .i64 a1] w fun e w' => e = .returned (.bool r) ∧ Below w.heap.size w w' := by
  have HR0 := Aside0.mk hr0
  have HC0 := Aside0.mk hc0
  clear hr0 hc0
  have HB := Aside0.mk (Below.refl w.heap.size w)
  have H : ((numnahref06_Close.f k l0 a1).bind fun bt185 => ((numnahref06_All.f l0).bind fun t189 => (some (bt185.1 == t189)))) = some r := h
  clear h
  replace H := Option.bind_eq_some_iff.mp H
  obtain ⟨⟨t185, t186⟩, A30, H⟩ := H
  replace H : ((numnahref06_All.f l0).bind fun t189 => (some (t185 == t189))) = some r := H
  have A3 := Aside0.mk A30
  clear A30
  replace H := Option.bind_eq_some_iff.mp H
  obtain ⟨t189, A40, H⟩ := H
  replace H : (some (t185 == t189)) = some r := H
  have A4 := Aside0.mk A40
  clear A40
  obtain rfl := Option.some.inj H
  go_enter Tryd.func63, Tryd.ntmps63
  go_wp2_with (first | ((with_reducible refine gate_callee (f := 37) rfl ?_); refine goesL_ (some 10) rfl rfl Tryd.func37 (by kernel_rfl) rfl #[.slice A0 l0.length c0, .int .i64 a1] rfl (by (try simp only [List.map_toArray, List.map_cons, List.map_nil]); first | done | rfl | (simp only [List.length_drop, List.length_take]; rfl)) ?_; (with_reducible refine (numnahref06_Close.calls k _ _ l0 a1 t185 t186 _ ?side1 ?side2 A3.out).mono ?_); (case side1 => repeat (first | exact HR0.out | (with_reducible refine Kd.C_alloc ?_ _) | (with_reducible refine Kd.C_drewN ?_ _) | (with_reducible refine Kd.C_drew ?_))); (case side2 => exact HC0.out); rintro e w5 ⟨v187, rfl, ho0, hb⟩; refine ⟨_, rfl, ?_⟩; have n0_ := Aside0.mk (Kd.R_lower ho0 (below_size (by repeat (first | (with_reducible first | exact HB.out | apply below_alloc | apply pw_below_drewN | apply below_drew1) | exact HB.out)))); have n1_ := Aside0.mk (below_step (by repeat (first | (with_reducible first | exact HB.out | apply below_alloc | apply pw_below_drewN | apply below_drew1) | exact HB.out)) hb); clear HB; have HO188 := n0_; have HB := n1_; clear n0_ n1_; (try clear hb); (try clear hb2); (try clear hk); (try clear hi); (try clear ho0)) | ((with_reducible refine gate_callee (f := 47) rfl ?_); refine goesL_ (some 15) rfl rfl Tryd.func47 (by kernel_rfl) rfl #[.slice A0 l0.length c0] rfl (by (try simp only [List.map_toArray, List.map_cons, List.map_nil]); first | done | rfl | (simp only [List.length_drop, List.length_take]; rfl)) ?_; (with_reducible refine (numnahref06_All.calls _ _ l0 t189 _ ?side1 ?side2 A4.out).mono ?_); (case side1 => repeat (first | exact (Kd.C_below HR0.out HB.out) | (with_reducible refine Kd.C_alloc ?_ _) | (with_reducible refine Kd.C_drewN ?_ _) | (with_reducible refine Kd.C_drew ?_))); (case side2 => exact HC0.out); rintro e w' ⟨rfl, ⟨nd, rfl⟩⟩; refine ⟨_, rfl, ?_⟩))
  go_ret
  exact ⟨by first | rfl | (simp [errW_none, errW_some] <;> rfl) | (simp [*, errW_none, errW_some] <;> rfl), by repeat (first | (with_reducible first | exact HB.out | apply below_alloc | apply pw_below_drewN | apply below_drew1) | exact HB.out)⟩
end Go.Proofs.YtpbeaaihdmfnlaaDoor.G

/- ### Gx7 -/
namespace Go.Proofs.YtpbeaaihdmfnlaaDoor.G
open Go.RowKit Go.Proofs.YtpbeaaihdmfnlaaDoorW.PrintWords Go.Proofs.YtpbeaaihdmfnlaaDoorW.PrintLast Go.Proofs.YtpbeaaihdmfnlaaDoorW.PrintMore
attribute [local go_sem] max2_int min2_int max_two min_two max_three min_three max_four min_four   -- for this text's walks alone
set_option linter.unusedVariables false
set_option linter.unusedSimpArgs false
def numnahref06_Least.l0 : Nat → List Int → Int → Int → Option (Int)
  | 0, _, _, _ => none
  | k + 1, x0, x3, x4 => if x4 < (shl .i64 1 (x0.length : Int)) then ((numnahref06_Before.f k x4 x3).bind fun t191 => (if t191 = true then ((numnahref06_Forcing.f k x0 x4).bind fun t192 => (if t192 = true then (numnahref06_Least.l0 k x0 x4 (wrap64 (x4 + 1))) else (numnahref06_Least.l0 k x0 x3 (wrap64 (x4 + 1))))) else (numnahref06_Least.l0 k x0 x3 (wrap64 (x4 + 1))))) else (some x3)
def numnahref06_Least.f (k : Nat) (l0 : List Int) : Option (Int) := (numnahref06_All.f l0).bind fun t190 => (numnahref06_Least.l0 k l0 t190 0)
theorem numnahref06_Least.mono_l : ∀ k, (∀ y0 y1 y2, LeO (numnahref06_Least.l0 k y0 y1 y2) (numnahref06_Least.l0 (k + 1) y0 y1 y2))
  | 0 => fun _ _ _ r h => by simp [numnahref06_Least.l0] at h
  | k + 1 => by
    have ih0 := numnahref06_Least.mono_l k
    · intro y0 y1 y2
      unfold numnahref06_Least.l0
      repeat' first
      | (with_reducible exact ih0 _ _ _)
      | (with_reducible exact numnahref06_Before.mono _ _ _)
      | (with_reducible exact numnahref06_Forcing.mono _ _ _)
      | (with_reducible exact LeO.refl _)
      | (with_reducible exact LeO.none _)
      | (with_reducible refine LeO.ite ?_ ?_)
      | (with_reducible refine LeO.bind ?_ (fun _ => ?_))
      | exact ih0 _ _ _
      | exact numnahref06_Before.mono _ _ _
      | exact numnahref06_Forcing.mono _ _ _
      | exact LeO.none _
      | refine LeO.ite ?_ ?_
      | refine LeO.bind ?_ (fun _ => ?_)
theorem numnahref06_Least.mono : ∀ a0 k, LeO (numnahref06_Least.f k a0) (numnahref06_Least.f (k + 1) a0) := by
  intro a0 k
  have ih0 := numnahref06_Least.mono_l k
  unfold numnahref06_Least.f
  repeat' first
      | (with_reducible exact ih0 _ _ _)
      | (with_reducible exact numnahref06_Before.mono _ _ _)
      | (with_reducible exact numnahref06_Forcing.mono _ _ _)
      | (with_reducible exact LeO.refl _)
      | (with_reducible exact LeO.none _)
      | (with_reducible refine LeO.ite ?_ ?_)
      | (with_reducible refine LeO.bind ?_ (fun _ => ?_))
      | exact ih0 _ _ _
      | exact numnahref06_Before.mono _ _ _
      | exact numnahref06_Forcing.mono _ _ _
      | exact LeO.none _
      | refine LeO.ite ?_ ?_
      | refine LeO.bind ?_ (fun _ => ?_)
set_option maxHeartbeats 8000000 in
set_option maxRecDepth 100000 in
theorem numnahref06_Least.calls (k : Nat) (A0 : Option Addr) (c0 : Nat) (l0 : List Int) (r : Int) (w : World) (hr0 : Kd.C (Kd.int .i64) w A0 l0.length l0) (hc0 : l0.length ≤ c0) (h : numnahref06_Least.f k l0 = some r) :
    Calls Tryd.prog 26 #[.slice A0 l0.length c0] w fun e w' => e = .returned (.int .i64 r) ∧ Below w.heap.size w w' := by
  have HR0 := Aside0.mk hr0
  have HC0 := Aside0.mk hc0
  clear hr0 hc0
  have HB := Aside0.mk (Below.refl w.heap.size w)
  have H : ((numnahref06_All.f l0).bind fun t190 => (numnahref06_Least.l0 k l0 t190 0)) = some r := h
  clear h
  replace H := Option.bind_eq_some_iff.mp H
  obtain ⟨t190, A20, H⟩ := H
  replace H : (numnahref06_Least.l0 k l0 t190 0) = some r := H
  have A2 := Aside0.mk A20
  clear A20
  have H' := Aside0.mk H
  clear H
  go_enter Tryd.func26, Tryd.ntmps26
  go_wp2_with (first | ((with_reducible refine gate_callee (f := 47) rfl ?_); refine goesL_ (some 6) rfl rfl Tryd.func47 (by kernel_rfl) rfl #[.slice A0 l0.length c0] rfl (by (try simp only [List.map_toArray, List.map_cons, List.map_nil]); first | done | rfl | (simp only [List.length_drop, List.length_take]; rfl)) ?_; (with_reducible refine (numnahref06_All.calls _ _ l0 t190 _ ?side1 ?side2 A2.out).mono ?_); (case side1 => repeat (first | exact HR0.out | (with_reducible refine Kd.C_alloc ?_ _) | (with_reducible refine Kd.C_drewN ?_ _) | (with_reducible refine Kd.C_drew ?_))); (case side2 => exact HC0.out); rintro e w' ⟨rfl, ⟨nd, rfl⟩⟩; refine ⟨_, rfl, ?_⟩))
  go_loopg [3, 4] k (fun kq v3 v4 w' => ∃ (x3_1 : Int) (x4_1 : Int), v3 = .int .i64 x3_1 ∧ v4 = .int .i64 x4_1 ∧ Aside0 (numnahref06_Least.l0 kq l0 x3_1 x4_1 = some r) ∧ Aside0 (kq ≤ k) ∧ Aside0 (Below w.heap.size w w'))
  case atStart => exact ⟨(t190), (0), (by first | rfl | (simp; done) | (simp [*]; done)), (by first | rfl | (simp; done) | (simp [*]; done)), H', ⟨Nat.le_refl _⟩, ⟨by repeat (first | (with_reducible first | exact HB.out | apply below_alloc | apply pw_below_drewN | apply below_drew1) | exact HB.out)⟩⟩
  case round =>
    clear H'
    try clear c2
    try clear p2
    obtain ⟨x3_1, x4_1, rfl, rfl, HA, HK1, HB⟩ := hrel
    cases gk with
    | zero => exact absurd HA.out (by simp [numnahref06_Least.l0])
    | succ k1 =>
      have H := HA.out
      clear HA
      simp only [numnahref06_Least.l0] at H
      obtain ⟨ji3, hji3⟩ : ∃ j_ : Int, (shl .i64 1 (l0.length : Int)) = j_ := ⟨_, rfl⟩
      replace H : (if x4_1 < (ji3) then ((numnahref06_Before.f k1 x4_1 x3_1).bind fun t191 => (if t191 = true then ((numnahref06_Forcing.f k1 l0 x4_1).bind fun t192 => (if t192 = true then (numnahref06_Least.l0 k1 l0 x4_1 (wrap64 (x4_1 + 1))) else (numnahref06_Least.l0 k1 l0 x3_1 (wrap64 (x4_1 + 1))))) else (numnahref06_Least.l0 k1 l0 x3_1 (wrap64 (x4_1 + 1))))) else (some x3_1)) = some r := by first | (rw [hji3] at H; exact H) | (simp only [hji3] at H ⊢; exact H)
      have hji3_ : (IntKind.i64.wrap (1 * 2 ^ min (l0.length : Int).toNat 64)) = ji3 := hji3
      have hji3z : (l0.length : Int) ≤ 64 → (IntKind.i64.wrap (1 * 2 ^ (l0.length : Int).toNat)) = ji3 := shl_small hji3
      have hji3p : (IntKind.i64.wrap (1 * 2 ^ min l0.length 64)) = ji3 := hji3_
      have hji3q : (l0.length : Int) ≤ 64 → (IntKind.i64.wrap (1 * 2 ^ l0.length)) = ji3 := hji3z
      have hji3r : (IntKind.i64.wrap (2 ^ min l0.length 64)) = ji3 := by have h_ := hji3p; rw [Int.one_mul] at h_; exact h_
      have hji3s : (l0.length : Int) ≤ 64 → (IntKind.i64.wrap (2 ^ l0.length)) = ji3 := fun hle_ => by have h_ := hji3q hle_; rw [Int.one_mul] at h_; exact h_
      have hji3u : (IntKind.i64.wrap (2 ^ min (l0.length : Int).toNat 64)) = ji3 := by have h_ := hji3_; rw [Int.one_mul] at h_; exact h_
      have hji3v : (l0.length : Int) ≤ 64 → (IntKind.i64.wrap (2 ^ (l0.length : Int).toNat)) = ji3 := fun hle_ => by have h_ := hji3z hle_; rw [Int.one_mul] at h_; exact h_
      have hji3y : (wrap64 (1 * 2 ^ min (l0.length : Int).toNat 64)) = ji3 := (i64_w _).symm.trans hji3_
      have hji3x : (l0.length : Int) ≤ 64 → (wrap64 (1 * 2 ^ (l0.length : Int).toNat)) = ji3 := fun h_ => (i64_w _).symm.trans (hji3z h_)
      by_cases c4 : x4_1 < (ji3)
      · rw [if_pos c4] at H
        have c4b0 : decide (x4_1 < (ji3)) = true := decide_eq_true c4
        clear c4
        replace H := Option.bind_eq_some_iff.mp H
        obtain ⟨t191, A50, H⟩ := H
        replace H : (if t191 = true then ((numnahref06_Forcing.f k1 l0 x4_1).bind fun t192 => (if t192 = true then (numnahref06_Least.l0 k1 l0 x4_1 (wrap64 (x4_1 + 1))) else (numnahref06_Least.l0 k1 l0 x3_1 (wrap64 (x4_1 + 1))))) else (numnahref06_Least.l0 k1 l0 x3_1 (wrap64 (x4_1 + 1)))) = some r := H
        have A5 := Aside0.mk A50
        clear A50
        by_cases c6 : t191 = true
        · subst c6
          have H1 : ((numnahref06_Forcing.f k1 l0 x4_1).bind fun t192 => (if t192 = true then (numnahref06_Least.l0 k1 l0 x4_1 (wrap64 (x4_1 + 1))) else (numnahref06_Least.l0 k1 l0 x3_1 (wrap64 (x4_1 + 1))))) = some r := by rw [if_pos rfl] at H; exact H
          clear H
          have H := H1
          clear H1
          replace H := Option.bind_eq_some_iff.mp H
          obtain ⟨t192, A70, H⟩ := H
          replace H : (if t192 = true then (numnahref06_Least.l0 k1 l0 x4_1 (wrap64 (x4_1 + 1))) else (numnahref06_Least.l0 k1 l0 x3_1 (wrap64 (x4_1 + 1)))) = some r := H
          have A7 := Aside0.mk A70
          clear A70
          by_cases c8 : t192 = true
          · subst c8
            have H1 : (numnahref06_Least.l0 k1 l0 x4_1 (wrap64 (x4_1 + 1))) = some r := by rw [if_pos rfl] at H; exact H
            clear H
            have H := H1
            clear H1
            have H' := Aside0.mk H
            clear H
            go_wp2_with (first | ((with_reducible refine gate_callee (f := 52) rfl ?_); refine goesL_ (some 16) rfl rfl Tryd.func52 (by kernel_rfl) rfl #[.int .i64 x4_1, .int .i64 x3_1] rfl (by (try simp only [List.map_toArray, List.map_cons, List.map_nil]); first | done | rfl | (simp only [List.length_drop, List.length_take]; rfl)) ?_; (with_reducible refine (numnahref06_Before.calls k1 x4_1 x3_1 true _ A5.out).mono ?_); rintro e w9 ⟨rfl, hb⟩; refine ⟨_, rfl, ?_⟩; have n0_ := Aside0.mk (below_step (by repeat (first | (with_reducible first | exact HB.out | apply below_alloc | apply pw_below_drewN | apply below_drew1) | exact HB.out)) hb); clear HB; have HB := n0_; clear n0_; (try clear hb); (try clear hb2); (try clear hk); (try clear hi)) | (go_at_call 63; (with_reducible refine (numnahref06_Forcing.calls k1 _ _ l0 x4_1 true _ ?side1 ?side2 A7.out).mono ?_); (case side1 => repeat (first | exact (Kd.C_below HR0.out HB.out) | (with_reducible refine Kd.C_alloc ?_ _) | (with_reducible refine Kd.C_drewN ?_ _) | (with_reducible refine Kd.C_drew ?_))); (case side2 => exact HC0.out); rintro e w10 ⟨rfl, hb⟩; have n0_ := Aside0.mk (below_step (by repeat (first | (with_reducible first | exact HB.out | apply below_alloc | apply pw_below_drewN | apply below_drew1) | exact HB.out)) hb); clear HB; have HB := n0_; clear n0_; (try clear hb); (try clear hb2); (try clear hk); (try clear hi)))
            go_roundg k1
            case measure => have := HK1.out; omega
            case rel => exact ⟨(x4_1), (wrap64 (x4_1 + 1)), (by first | rfl | (simp; done) | (simp [*]; done)), (by first | rfl | (simp; done) | (simp [*]; done)), H', ⟨by have := HK1.out; omega⟩, ⟨by repeat (first | (with_reducible first | exact HB.out | apply below_alloc | apply pw_below_drewN | apply below_drew1) | exact HB.out)⟩⟩
          · replace c8 := Bool.eq_false_iff.mpr c8
            subst c8
            have H1 : (numnahref06_Least.l0 k1 l0 x3_1 (wrap64 (x4_1 + 1))) = some r := by rw [if_neg (show ¬ (false = true) by decide)] at H; exact H
            clear H
            have H := H1
            clear H1
            have H' := Aside0.mk H
            clear H
            go_wp2_with (first | ((with_reducible refine gate_callee (f := 52) rfl ?_); refine goesL_ (some 16) rfl rfl Tryd.func52 (by kernel_rfl) rfl #[.int .i64 x4_1, .int .i64 x3_1] rfl (by (try simp only [List.map_toArray, List.map_cons, List.map_nil]); first | done | rfl | (simp only [List.length_drop, List.length_take]; rfl)) ?_; (with_reducible refine (numnahref06_Before.calls k1 x4_1 x3_1 true _ A5.out).mono ?_); rintro e w11 ⟨rfl, hb⟩; refine ⟨_, rfl, ?_⟩; have n0_ := Aside0.mk (below_step (by repeat (first | (with_reducible first | exact HB.out | apply below_alloc | apply pw_below_drewN | apply below_drew1) | exact HB.out)) hb); clear HB; have HB := n0_; clear n0_; (try clear hb); (try clear hb2); (try clear hk); (try clear hi)) | (go_at_call 63; (with_reducible refine (numnahref06_Forcing.calls k1 _ _ l0 x4_1 false _ ?side1 ?side2 A7.out).mono ?_); (case side1 => repeat (first | exact (Kd.C_below HR0.out HB.out) | (with_reducible refine Kd.C_alloc ?_ _) | (with_reducible refine Kd.C_drewN ?_ _) | (with_reducible refine Kd.C_drew ?_))); (case side2 => exact HC0.out); rintro e w12 ⟨rfl, hb⟩; have n0_ := Aside0.mk (below_step (by repeat (first | (with_reducible first | exact HB.out | apply below_alloc | apply pw_below_drewN | apply below_drew1) | exact HB.out)) hb); clear HB; have HB := n0_; clear n0_; (try clear hb); (try clear hb2); (try clear hk); (try clear hi)))
            go_roundg k1
            case measure => have := HK1.out; omega
            case rel => exact ⟨(x3_1), (wrap64 (x4_1 + 1)), (by first | rfl | (simp; done) | (simp [*]; done)), (by first | rfl | (simp; done) | (simp [*]; done)), H', ⟨by have := HK1.out; omega⟩, ⟨by repeat (first | (with_reducible first | exact HB.out | apply below_alloc | apply pw_below_drewN | apply below_drew1) | exact HB.out)⟩⟩
        · replace c6 := Bool.eq_false_iff.mpr c6
          subst c6
          have H1 : (numnahref06_Least.l0 k1 l0 x3_1 (wrap64 (x4_1 + 1))) = some r := by rw [if_neg (show ¬ (false = true) by decide)] at H; exact H
          clear H
          have H := H1
          clear H1
          have H' := Aside0.mk H
          clear H
          go_wp2_with (first | ((with_reducible refine gate_callee (f := 52) rfl ?_); refine goesL_ (some 16) rfl rfl Tryd.func52 (by kernel_rfl) rfl #[.int .i64 x4_1, .int .i64 x3_1] rfl (by (try simp only [List.map_toArray, List.map_cons, List.map_nil]); first | done | rfl | (simp only [List.length_drop, List.length_take]; rfl)) ?_; (with_reducible refine (numnahref06_Before.calls k1 x4_1 x3_1 false _ A5.out).mono ?_); rintro e w13 ⟨rfl, hb⟩; refine ⟨_, rfl, ?_⟩; have n0_ := Aside0.mk (below_step (by repeat (first | (with_reducible first | exact HB.out | apply below_alloc | apply pw_below_drewN | apply below_drew1) | exact HB.out)) hb); clear HB; have HB := n0_; clear n0_; (try clear hb); (try clear hb2); (try clear hk); (try clear hi)))
          go_roundg k1
          case measure => have := HK1.out; omega
          case rel => exact ⟨(x3_1), (wrap64 (x4_1 + 1)), (by first | rfl | (simp; done) | (simp [*]; done)), (by first | rfl | (simp; done) | (simp [*]; done)), H', ⟨by have := HK1.out; omega⟩, ⟨by repeat (first | (with_reducible first | exact HB.out | apply below_alloc | apply pw_below_drewN | apply below_drew1) | exact HB.out)⟩⟩
      · rw [if_neg c4] at H
        have c4b0 : decide (x4_1 < (ji3)) = false := decide_eq_false c4
        clear c4
        obtain rfl := Option.some.inj H
        go_wp2
        go_ret
        exact ⟨by first | rfl | (simp [errW_none, errW_some] <;> rfl) | (simp only [← hji3]; first | rfl | (simp [errW_none, errW_some] <;> rfl)) | (simp [*, errW_none, errW_some] <;> rfl), by repeat (first | (with_reducible first | exact HB.out | apply below_alloc | apply pw_below_drewN | apply below_drew1) | exact HB.out)⟩
end Go.Proofs.YtpbeaaihdmfnlaaDoor.G
