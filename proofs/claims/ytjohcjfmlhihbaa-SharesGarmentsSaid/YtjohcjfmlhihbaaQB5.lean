/- Several texts, joined. -/
import Derived.Test.YtjohcjfmlhihbaaQB4
set_option linter.unusedVariables false
set_option linter.unusedSimpArgs false

/- ### X26 -/
namespace Go.Proofs.Ytjohcjfmlhihbaa.G
open Go Go.RowKit Go.Shelf Go.Proofs.Ytjohcjfmlhihbaa.H Go.Proofs.YtjohcjfmlhihbaaW.PrintWords
attribute [local go_sem] Oper.semAt_some wide_fn
/-- The rule of a number, bound to claims. -/
def boundF (f : Nat) (A : Option Addr) (n c : Nat) (e : Int) : Value := .func (.func f) #[.agg #[.slice A n c, .int .i64 e]] #[]
def rulesM (A : Option Addr) (n c : Nat) (e : Int) : Array MapEntry :=
 #[⟨.int .i64 0, boundF 97 A n c e, 0⟩, ⟨.int .i64 1, boundF 98 A n c e, 1⟩, ⟨.int .i64 2, boundF 99 A n c e, 2⟩, ⟨.int .i64 3, boundF 100 A n c e, 3⟩, ⟨.int .i64 4, boundF 101 A n c e, 4⟩]
theorem gate_none {P : Program} {ops : Array Oper} {rest : List Oper} {o : Oper} {a : Act} {Q : Exit → Act → World → Prop} {w : World} (_h : o.dst = none) (h : wpList P ops Q (o :: rest) a w) : wpList P ops Q (o :: rest) a w := h
set_option maxHeartbeats 8000000 in
set_option maxRecDepth 100000 in
theorem rules_any (A : Option Addr) (n c : Nat) (e0 : Int) (w : World) :
  Calls Try.prog 68 #[.agg #[.slice A n c, .int .i64 e0]] w fun e w' => ∃ b, e = .returned (.map (some b)) ∧ w'.heap[b]? = some (.map (rulesM A n c e0) 5) ∧ w.heap.size ≤ b ∧ Below w.heap.size w w' := by
 have hu94 := Try.underlying94
 have HB := Aside0.mk (Below.refl w.heap.size w)
 go_enter Try.func68, Try.ntmps68
 go_wp2_with (first | ((with_reducible refine gate_dst (N := 1) rfl ?_); refine box_event ?hg (N := 1) ?hd (cs := #[.slice A n c, .int .i64 e0]) (t := 94) ?hr ?_; (case hd => rfl); (case hg => rfl); (case hr => first | (go_simp; done) | (go_simp; rfl)); intro gbC hg w2 hbox hb; have n0_ := Aside0.mk (below_step HB.out hb); have n1_ := Aside0.mk hbox; clear HB; have HB := n0_; have BKC := n1_; clear n0_ n1_; clear hb hbox hg) | ((with_reducible refine gate_dst (N := 3) rfl ?_); refine map_event rfl 104 rfl ?_; intro gbM hg w3 hmap hb; have n0_ := Aside0.mk (below_step HB.out hb); have n1_ := Aside0.mk hmap; have n2_ := Aside0.mk (blk_below BKC.out hb); have n3_ := Aside0.mk (by rw [hg]; exact HB.out.size : w.heap.size ≤ gbM); have n4_ := Aside0.mk (by rw [hg]; exact Nat.ne_of_lt (blk_lt BKC.out) : gbC ≠ gbM); clear HB BKC; have HB := n0_; have HM := n1_; have BKC := n2_; have GEM := n3_; have NEM := n4_; clear n0_ n1_ n2_ n3_ n4_; clear hb hmap hg; have hczC := (blk_cell BKC.out 0).trans rfl; have hczC1 := (blk_cell BKC.out 1).trans rfl) | ((with_reducible refine gate_none rfl ?_); refine insert_new _ rfl (.tmp 3) (.const (.int .i64 0)) (.tmp 5) 104 3 102 rfl Try.underlying104 Try.underlying3 gbM #[] 0 rfl HM.out 0 (boundF 97 A n c e0) rfl rfl (by rfl) ?_; intro w4 hm hg; have n0_ := Aside0.mk (HB.out.grown hg HB.out.size (fun k e => by injection e with e; rw [← e]; exact GEM.out)); have n1_ := Aside0.mk (show w4.heap[gbM]? = some (.map #[⟨.int .i64 0, boundF 97 A n c e0, 0⟩] 1) from hm); have n2_ := Aside0.mk (blk_grown BKC.out hg (fun e => NEM.out (by injection e))); clear HB HM BKC; (try clear hczC hczC1); have HB := n0_; have HM := n1_; have BKC := n2_; clear n0_ n1_ n2_; clear hm hg; have hczC := (blk_cell BKC.out 0).trans rfl; have hczC1 := (blk_cell BKC.out 1).trans rfl) | ((with_reducible refine gate_none rfl ?_); refine insert_new _ rfl (.tmp 3) (.const (.int .i64 1)) (.tmp 7) 104 3 102 rfl Try.underlying104 Try.underlying3 gbM #[⟨.int .i64 0, boundF 97 A n c e0, 0⟩] 1 rfl HM.out 1 (boundF 98 A n c e0) rfl rfl (by rfl) ?_; intro w4 hm hg; have n0_ := Aside0.mk (HB.out.grown hg HB.out.size (fun k e => by injection e with e; rw [← e]; exact GEM.out)); have n1_ := Aside0.mk (show w4.heap[gbM]? = some (.map #[⟨.int .i64 0, boundF 97 A n c e0, 0⟩, ⟨.int .i64 1, boundF 98 A n c e0, 1⟩] 2) from hm); have n2_ := Aside0.mk (blk_grown BKC.out hg (fun e => NEM.out (by injection e))); clear HB HM BKC; (try clear hczC hczC1); have HB := n0_; have HM := n1_; have BKC := n2_; clear n0_ n1_ n2_; clear hm hg; have hczC := (blk_cell BKC.out 0).trans rfl; have hczC1 := (blk_cell BKC.out 1).trans rfl) | ((with_reducible refine gate_none rfl ?_); refine insert_new _ rfl (.tmp 3) (.const (.int .i64 2)) (.tmp 9) 104 3 102 rfl Try.underlying104 Try.underlying3 gbM #[⟨.int .i64 0, boundF 97 A n c e0, 0⟩, ⟨.int .i64 1, boundF 98 A n c e0, 1⟩] 2 rfl HM.out 2 (boundF 99 A n c e0) rfl rfl (by rfl) ?_; intro w4 hm hg; have n0_ := Aside0.mk (HB.out.grown hg HB.out.size (fun k e => by injection e with e; rw [← e]; exact GEM.out)); have n1_ := Aside0.mk (show w4.heap[gbM]? = some (.map #[⟨.int .i64 0, boundF 97 A n c e0, 0⟩, ⟨.int .i64 1, boundF 98 A n c e0, 1⟩, ⟨.int .i64 2, boundF 99 A n c e0, 2⟩] 3) from hm); have n2_ := Aside0.mk (blk_grown BKC.out hg (fun e => NEM.out (by injection e))); clear HB HM BKC; (try clear hczC hczC1); have HB := n0_; have HM := n1_; have BKC := n2_; clear n0_ n1_ n2_; clear hm hg; have hczC := (blk_cell BKC.out 0).trans rfl; have hczC1 := (blk_cell BKC.out 1).trans rfl) | ((with_reducible refine gate_none rfl ?_); refine insert_new _ rfl (.tmp 3) (.const (.int .i64 3)) (.tmp 11) 104 3 102 rfl Try.underlying104 Try.underlying3 gbM #[⟨.int .i64 0, boundF 97 A n c e0, 0⟩, ⟨.int .i64 1, boundF 98 A n c e0, 1⟩, ⟨.int .i64 2, boundF 99 A n c e0, 2⟩] 3 rfl HM.out 3 (boundF 100 A n c e0) rfl rfl (by rfl) ?_; intro w4 hm hg; have n0_ := Aside0.mk (HB.out.grown hg HB.out.size (fun k e => by injection e with e; rw [← e]; exact GEM.out)); have n1_ := Aside0.mk (show w4.heap[gbM]? = some (.map #[⟨.int .i64 0, boundF 97 A n c e0, 0⟩, ⟨.int .i64 1, boundF 98 A n c e0, 1⟩, ⟨.int .i64 2, boundF 99 A n c e0, 2⟩, ⟨.int .i64 3, boundF 100 A n c e0, 3⟩] 4) from hm); have n2_ := Aside0.mk (blk_grown BKC.out hg (fun e => NEM.out (by injection e))); clear HB HM BKC; (try clear hczC hczC1); have HB := n0_; have HM := n1_; have BKC := n2_; clear n0_ n1_ n2_; clear hm hg; have hczC := (blk_cell BKC.out 0).trans rfl; have hczC1 := (blk_cell BKC.out 1).trans rfl) | ((with_reducible refine gate_none rfl ?_); refine insert_new _ rfl (.tmp 3) (.const (.int .i64 4)) (.tmp 13) 104 3 102 rfl Try.underlying104 Try.underlying3 gbM #[⟨.int .i64 0, boundF 97 A n c e0, 0⟩, ⟨.int .i64 1, boundF 98 A n c e0, 1⟩, ⟨.int .i64 2, boundF 99 A n c e0, 2⟩, ⟨.int .i64 3, boundF 100 A n c e0, 3⟩] 4 rfl HM.out 4 (boundF 101 A n c e0) rfl rfl (by rfl) ?_; intro w4 hm hg; have n0_ := Aside0.mk (HB.out.grown hg HB.out.size (fun k e => by injection e with e; rw [← e]; exact GEM.out)); have n1_ := Aside0.mk (show w4.heap[gbM]? = some (.map #[⟨.int .i64 0, boundF 97 A n c e0, 0⟩, ⟨.int .i64 1, boundF 98 A n c e0, 1⟩, ⟨.int .i64 2, boundF 99 A n c e0, 2⟩, ⟨.int .i64 3, boundF 100 A n c e0, 3⟩, ⟨.int .i64 4, boundF 101 A n c e0, 4⟩] 5) from hm); have n2_ := Aside0.mk (blk_grown BKC.out hg (fun e => NEM.out (by injection e))); clear HB HM BKC; (try clear hczC hczC1); have HB := n0_; have HM := n1_; have BKC := n2_; clear n0_ n1_ n2_; clear hm hg; have hczC := (blk_cell BKC.out 0).trans rfl; have hczC1 := (blk_cell BKC.out 1).trans rfl))
 go_ret
 exact ⟨gbM, rfl, HM.out, GEM.out, HB.out⟩
def shares_Award.f (k : Nat) (a0 : Int) (l1 : List Int) (a2 : Int) : Option ((List (S23)) × (Int)) :=
 (newClaimsR.f k l1 a2).bind fun ok => if ok = true then
  (if a0 = 0 then (shares_claims_proportional.f k l1 a2).bind fun x => some (x, 0)
  else if a0 = 1 then (shares_claims_awards.f k l1 a2).bind fun x => some (x, 0)
  else if a0 = 2 then (shares_claims_losses.f k l1 a2).bind fun x => some (x, 0)
  else if a0 = 3 then (shares_claims_talmud.f k l1 a2).bind fun x => some (x, 0)
  else if a0 = 4 then (shares_claims_piniles.f k l1 a2).bind fun x => some (x, 0)
  else some ([], 2)) else some ([], 2)
theorem shares_Award.mono : ∀ a0 l1 a2 k, LeO (shares_Award.f k a0 l1 a2) (shares_Award.f (k + 1) a0 l1 a2) := by
 intro a0 l1 a2 k
 unfold shares_Award.f
 refine LeO.bind (newClaimsR.mono _ _ _) (fun _ => LeO.ite ?_ (LeO.refl _))
 refine LeO.ite (LeO.bind (shares_claims_proportional.mono _ _ _) (fun _ => LeO.refl _)) ?_
 refine LeO.ite (LeO.bind (shares_claims_awards.mono _ _ _) (fun _ => LeO.refl _)) ?_
 refine LeO.ite (LeO.bind (shares_claims_losses.mono _ _ _) (fun _ => LeO.refl _)) ?_
 refine LeO.ite (LeO.bind (shares_claims_talmud.mono _ _ _) (fun _ => LeO.refl _)) ?_
 exact LeO.ite (LeO.bind (shares_claims_piniles.mono _ _ _) (fun _ => LeO.refl _)) (LeO.refl _)
set_option maxHeartbeats 8000000 in
set_option maxRecDepth 100000 in
theorem shares_Award.calls (k : Nat) (a0 : Int) (A1 : Option Addr) (c1 : Nat) (l1 : List Int) (a2 : Int) (r1 : List (S23)) (r2 : Int) (w : World) (hr1 : Kd.C (Kd.int .i64) w A1 l1.length l1) (hc1 : l1.length ≤ c1) (h : shares_Award.f k a0 l1 a2 = some (r1, r2)) :
  Calls Try.prog 26 #[.int .i64 a0, .slice A1 l1.length c1, .int .i64 a2] w fun e w' => ∃ v0_ : Value, e = .returned (.tuple #[v0_, .int .i64 r2]) ∧ Kd.R k23 23 w' w.heap.size (fun _ => True) v0_ r1 ∧ Below w.heap.size w w' := by
 have hu94 := Try.underlying94
 have HR1 := Aside0.mk hr1
 have HC1 := Aside0.mk hc1
 clear hr1 hc1
 have HB := Aside0.mk (Below.refl w.heap.size w)
 unfold shares_Award.f at h
 obtain ⟨ok, h1, h⟩ := Option.bind_eq_some_iff.1 h
 have A1_ := Aside0.mk h1
 have H := Aside0.mk h
 clear h h1
 go_enter Try.func26, Try.ntmps26
 go_wp2_with fail
 refine (newClaimsR.calls k A1 c1 l1 a2 ok _ HR1.out HC1.out A1_.out).mono ?_
 rintro e w1 ⟨rfl, hb⟩
 have n0_ := Aside0.mk (below_step HB.out hb)
 clear HB hb
 have HB := n0_
 clear n0_
 go_wp2_with (first | ((with_reducible refine gate_dst (N := 8) rfl ?_); refine box_event ?hg (N := 8) ?hd (cs := #[.slice none 0 0, .int .i64 0]) (t := 94) ?hr ?_; (case hd => rfl); (case hg => rfl); (case hr => first | (go_simp; done) | (go_simp; rfl)); intro gbC hg w2 hbox hb; have n0_ := Aside0.mk (below_step HB.out hb); have n1_ := Aside0.mk hbox; have n2_ := Aside0.mk (by rw [hg]; exact HB.out.size : w.heap.size ≤ gbC); clear HB; have HB := n0_; have BKC := n1_; have GEC := n2_; clear n0_ n1_ n2_; clear hb hbox hg; have hczC := (blk_cell BKC.out 0).trans rfl; have hczC1 := (blk_cell BKC.out 1).trans rfl; have hfzC := blk_frozen BKC.out 0; have hfzC1 := blk_frozen BKC.out 1))
 refine (rules_any A1 l1.length c1 a2 _).mono ?_
 rintro e w3 ⟨b, rfl, hm, hge, hb⟩
 have n0_ := Aside0.mk (below_step (below_set (below_set HB.out GEC.out) GEC.out) hb)
 have HM := Aside0.mk hm
 clear HB hb hm hge
 (try clear hczC); (try clear hczC1); (try clear hfzC); (try clear hfzC1); (try clear BKC); (try clear GEC)
 have HB := n0_
 clear n0_
 by_cases hk : a0 = 0 ∨ a0 = 1 ∨ a0 = 2 ∨ a0 = 3 ∨ a0 = 4
 ·rcases hk with rfl | rfl | rfl | rfl | rfl
  ·have hl := run_look w3 Try.underlying104 Try.underlying3 HM.out (j := 0) (i := 0) (v := boundF 97 A1 l1.length c1 a2) (by rfl)
   unfold boundF at hl
   cases ok with
   | false =>
    have h := H.out
    rw [if_neg (by decide)] at h
    simp only [Option.some.injEq, Prod.mk.injEq] at h
    obtain ⟨rfl, rfl⟩ := h
    go_wp2_with fail
    go_ret2
    exact ⟨_, rfl, Kd.R_nil _ _ _ _ _, HB.out⟩
   | true =>
    have h := H.out
    rw [if_pos rfl] at h
    rw [if_pos (by rfl)] at h
    obtain ⟨x, hx, h⟩ := Option.bind_eq_some_iff.1 h
    simp only [Option.some.injEq, Prod.mk.injEq] at h
    obtain ⟨rfl, rfl⟩ := h
    have HX := Aside0.mk hx
    clear hx H
    go_wp2_with fail
    refine (shares_claims_proportional.calls k A1 c1 l1 a2 x _ (Kd.C_below HR1.out HB.out) HC1.out HX.out).mono ?_
    rintro e w5 ⟨v, rfl, hr, hb⟩
    have HR5 := Aside0.mk (Kd.R_lower hr HB.out.size)
    have HB5 := Aside0.mk (below_step HB.out hb)
    clear hr hb hl
    go_wp2
    go_ret2
    exact ⟨_, rfl, HR5.out, HB5.out⟩
  ·have hl := run_look w3 Try.underlying104 Try.underlying3 HM.out (j := 1) (i := 1) (v := boundF 98 A1 l1.length c1 a2) (by rfl)
   unfold boundF at hl
   cases ok with
   | false =>
    have h := H.out
    rw [if_neg (by decide)] at h
    simp only [Option.some.injEq, Prod.mk.injEq] at h
    obtain ⟨rfl, rfl⟩ := h
    go_wp2_with fail
    go_ret2
    exact ⟨_, rfl, Kd.R_nil _ _ _ _ _, HB.out⟩
   | true =>
    have h := H.out
    rw [if_pos rfl] at h
    rw [if_neg (by decide)] at h; rw [if_pos (by rfl)] at h
    obtain ⟨x, hx, h⟩ := Option.bind_eq_some_iff.1 h
    simp only [Option.some.injEq, Prod.mk.injEq] at h
    obtain ⟨rfl, rfl⟩ := h
    have HX := Aside0.mk hx
    clear hx H
    go_wp2_with fail
    refine (shares_claims_awards.calls k A1 c1 l1 a2 x _ (Kd.C_below HR1.out HB.out) HC1.out HX.out).mono ?_
    rintro e w5 ⟨v, rfl, hr, hb⟩
    have HR5 := Aside0.mk (Kd.R_lower hr HB.out.size)
    have HB5 := Aside0.mk (below_step HB.out hb)
    clear hr hb hl
    go_wp2
    go_ret2
    exact ⟨_, rfl, HR5.out, HB5.out⟩
  ·have hl := run_look w3 Try.underlying104 Try.underlying3 HM.out (j := 2) (i := 2) (v := boundF 99 A1 l1.length c1 a2) (by rfl)
   unfold boundF at hl
   cases ok with
   | false =>
    have h := H.out
    rw [if_neg (by decide)] at h
    simp only [Option.some.injEq, Prod.mk.injEq] at h
    obtain ⟨rfl, rfl⟩ := h
    go_wp2_with fail
    go_ret2
    exact ⟨_, rfl, Kd.R_nil _ _ _ _ _, HB.out⟩
   | true =>
    have h := H.out
    rw [if_pos rfl] at h
    rw [if_neg (by decide)] at h; rw [if_neg (by decide)] at h; rw [if_pos (by rfl)] at h
    obtain ⟨x, hx, h⟩ := Option.bind_eq_some_iff.1 h
    simp only [Option.some.injEq, Prod.mk.injEq] at h
    obtain ⟨rfl, rfl⟩ := h
    have HX := Aside0.mk hx
    clear hx H
    go_wp2_with fail
    refine (shares_claims_losses.calls k A1 c1 l1 a2 x _ (Kd.C_below HR1.out HB.out) HC1.out HX.out).mono ?_
    rintro e w5 ⟨v, rfl, hr, hb⟩
    have HR5 := Aside0.mk (Kd.R_lower hr HB.out.size)
    have HB5 := Aside0.mk (below_step HB.out hb)
    clear hr hb hl
    go_wp2
    go_ret2
    exact ⟨_, rfl, HR5.out, HB5.out⟩
  ·have hl := run_look w3 Try.underlying104 Try.underlying3 HM.out (j := 3) (i := 3) (v := boundF 100 A1 l1.length c1 a2) (by rfl)
   unfold boundF at hl
   cases ok with
   | false =>
    have h := H.out
    rw [if_neg (by decide)] at h
    simp only [Option.some.injEq, Prod.mk.injEq] at h
    obtain ⟨rfl, rfl⟩ := h
    go_wp2_with fail
    go_ret2
    exact ⟨_, rfl, Kd.R_nil _ _ _ _ _, HB.out⟩
   | true =>
    have h := H.out
    rw [if_pos rfl] at h
    rw [if_neg (by decide)] at h; rw [if_neg (by decide)] at h; rw [if_neg (by decide)] at h; rw [if_pos (by rfl)] at h
    obtain ⟨x, hx, h⟩ := Option.bind_eq_some_iff.1 h
    simp only [Option.some.injEq, Prod.mk.injEq] at h
    obtain ⟨rfl, rfl⟩ := h
    have HX := Aside0.mk hx
    clear hx H
    go_wp2_with fail
    refine (shares_claims_talmud.calls k A1 c1 l1 a2 x _ (Kd.C_below HR1.out HB.out) HC1.out HX.out).mono ?_
    rintro e w5 ⟨v, rfl, hr, hb⟩
    have HR5 := Aside0.mk (Kd.R_lower hr HB.out.size)
    have HB5 := Aside0.mk (below_step HB.out hb)
    clear hr hb hl
    go_wp2
    go_ret2
    exact ⟨_, rfl, HR5.out, HB5.out⟩
  ·have hl := run_look w3 Try.underlying104 Try.underlying3 HM.out (j := 4) (i := 4) (v := boundF 101 A1 l1.length c1 a2) (by rfl)
   unfold boundF at hl
   cases ok with
   | false =>
    have h := H.out
    rw [if_neg (by decide)] at h
    simp only [Option.some.injEq, Prod.mk.injEq] at h
    obtain ⟨rfl, rfl⟩ := h
    go_wp2_with fail
    go_ret2
    exact ⟨_, rfl, Kd.R_nil _ _ _ _ _, HB.out⟩
   | true =>
    have h := H.out
    rw [if_pos rfl] at h
    rw [if_neg (by decide)] at h; rw [if_neg (by decide)] at h; rw [if_neg (by decide)] at h; rw [if_neg (by decide)] at h; rw [if_pos (by rfl)] at h
    obtain ⟨x, hx, h⟩ := Option.bind_eq_some_iff.1 h
    simp only [Option.some.injEq, Prod.mk.injEq] at h
    obtain ⟨rfl, rfl⟩ := h
    have HX := Aside0.mk hx
    clear hx H
    go_wp2_with fail
    refine (shares_claims_piniles.calls k A1 c1 l1 a2 x _ (Kd.C_below HR1.out HB.out) HC1.out HX.out).mono ?_
    rintro e w5 ⟨v, rfl, hr, hb⟩
    have HR5 := Aside0.mk (Kd.R_lower hr HB.out.size)
    have HB5 := Aside0.mk (below_step HB.out hb)
    clear hr hb hl
    go_wp2
    go_ret2
    exact ⟨_, rfl, HR5.out, HB5.out⟩
 ·have hn : ∀ j : Int, (j = 0 ∨ j = 1 ∨ j = 2 ∨ j = 3 ∨ j = 4) → (a0 == j) = false := fun j hj => by
   rw [beq_eq_false_iff_ne]
   rintro rfl
   exact hk hj
  have hl := run_look_no w3 Try.underlying104 Try.underlying3 (z := .nilFunc) (by kernel_rfl) HM.out (j := a0) (by
   show Instr.findNow (.int .i64) (.int .i64 a0) [_, _, _, _, _] 0 = _
   simp only [Instr.findNow, Instr.sameNow, if_true, hn 0 (by decide), hn 1 (by decide), hn 2 (by decide), hn 3 (by decide), hn 4 (by decide)])
  have h := H.out
  rw [if_neg (fun e => hk (.inl e)), if_neg (fun e => hk (.inr (.inl e))), if_neg (fun e => hk (.inr (.inr (.inl e)))), if_neg (fun e => hk (.inr (.inr (.inr (.inl e))))), if_neg (fun e => hk (.inr (.inr (.inr (.inr e))))), ite_self] at h
  simp only [Option.some.injEq, Prod.mk.injEq] at h
  obtain ⟨rfl, rfl⟩ := h
  clear hn hk H
  cases ok
  all_goals
   go_wp2_with fail
   go_ret2
   exact ⟨_, rfl, Kd.R_nil _ _ _ _ _, HB.out⟩
end Go.Proofs.Ytjohcjfmlhihbaa.G

/- ### F22 -/
namespace Go.Proofs.Ytjohcjfmlhihbaa.G
open Go.RowKit Go.Proofs.YtjohcjfmlhihbaaW.PrintWords Go.Proofs.YtjohcjfmlhihbaaW.PrintLast Go.Proofs.YtjohcjfmlhihbaaW.PrintMore
attribute [local go_sem] cond_true cond_false fld23_0 fld23_1 fld45_0 fld45_1 fld109_0 fld109_1 fld94_0 fld94_1 max2_int min2_int max_two min_two max_three min_three max_four min_four   -- for this text's walks alone
set_option linter.unusedVariables false
set_option linter.unusedSimpArgs false
attribute [local go_sem high] eqA23
def numnahlaw07_awake.j0 : Nat → Bool → Option (Bool)
 | 0, _ => none
 | k + 1, x72 => if x72 = true then (some false) else (some true)
def numnahlaw07_awake.f (k : Nat)  : Option (Bool) := (shares_Award.f k 3 (([100, 200, 300] : List Int)) 300).bind fun bt313 => ((shares_Garment.f k 100 50 100).bind fun bt317 => ((shares_Fair.f k (([10, 4] : List Int)) (([(⟨1, (([0, 1] : List Int))⟩ : S45), (⟨1, (([0] : List Int))⟩ : S45)] : List (S45)))).bind fun bt336 => (if bt313.2 = 0 then ((numnahref07_Whole.f 50).bind fun bt343 => ((numnahref07_Whole.f 100).bind fun bt345 => ((numnahref07_Whole.f 150).bind fun bt347 => ((numnahref07_Same.f k bt313.1 (([(⟨bt343.1, bt343.2⟩ : S23), (⟨bt345.1, bt345.2⟩ : S23), (⟨bt347.1, bt347.2⟩ : S23)] : List (S23)))).bind fun t352 => (if t352 = true then (if bt317.2.2.2.2 = 0 then ((numnahref07_Whole.f 25).bind fun bt353 => (if (!(bt317.1 == bt353.1) || (!(bt317.2.1 == bt353.2))) = true then (numnahlaw07_awake.j0 k true) else ((numnahref07_Whole.f 75).bind fun bt355 => (if (!(bt317.2.2.1 == bt355.1) || (!(bt317.2.2.2.1 == bt355.2))) = true then (numnahlaw07_awake.j0 k true) else (if bt336.2.2 = 0 then ((numnahref07_Whole.f 4).bind fun bt357 => ((numnahref07_Whole.f 6).bind fun bt359 => ((numnahref07_Same.f k bt336.1 (([(⟨bt357.1, bt357.2⟩ : S23), (⟨bt359.1, bt359.2⟩ : S23)] : List (S23)))).bind fun t364 => (if t364 = true then ((numnahlaw07_ints.f k bt336.2.1 (([1, 0] : List Int))).bind fun t368 => (numnahlaw07_awake.j0 k (!t368))) else (numnahlaw07_awake.j0 k true))))) else (numnahlaw07_awake.j0 k true)))))) else (numnahlaw07_awake.j0 k true)) else (numnahlaw07_awake.j0 k true)))))) else (numnahlaw07_awake.j0 k true))))
theorem numnahlaw07_awake.mono_l : ∀ k, (∀ y0, LeO (numnahlaw07_awake.j0 k y0) (numnahlaw07_awake.j0 (k + 1) y0))
 | 0 => fun _ r h => by simp [numnahlaw07_awake.j0] at h
 | k + 1 => by
  have ih0 := numnahlaw07_awake.mono_l k
  ·intro y0
   unfold numnahlaw07_awake.j0
   repeat' first
   | (with_reducible exact ih0 _)
   | (with_reducible exact numnahlaw07_ints.mono _ _ _)
   | (with_reducible exact numnahref07_Same.mono _ _ _)
   | (with_reducible exact shares_Award.mono _ _ _ _)
   | (with_reducible exact shares_Fair.mono _ _ _)
   | (with_reducible exact shares_Garment.mono _ _ _ _)
   | (with_reducible exact LeO.refl _)
   | (with_reducible exact LeO.none _)
   | (with_reducible refine LeO.ite ?_ ?_)
   | (with_reducible refine LeO.bind ?_ (fun _ => ?_))
   | exact ih0 _
   | exact numnahlaw07_ints.mono _ _ _
   | exact numnahref07_Same.mono _ _ _
   | exact shares_Award.mono _ _ _ _
   | exact shares_Fair.mono _ _ _
   | exact shares_Garment.mono _ _ _ _
   | exact LeO.none _
   | refine LeO.ite ?_ ?_
   | refine LeO.bind ?_ (fun _ => ?_)
theorem numnahlaw07_awake.mono : ∀ k, LeO (numnahlaw07_awake.f k ) (numnahlaw07_awake.f (k + 1) ) := by
 intro  k
 have ih0 := numnahlaw07_awake.mono_l k
 unfold numnahlaw07_awake.f
 repeat' first
   | (with_reducible exact ih0 _)
   | (with_reducible exact numnahlaw07_ints.mono _ _ _)
   | (with_reducible exact numnahref07_Same.mono _ _ _)
   | (with_reducible exact shares_Award.mono _ _ _ _)
   | (with_reducible exact shares_Fair.mono _ _ _)
   | (with_reducible exact shares_Garment.mono _ _ _ _)
   | (with_reducible exact LeO.refl _)
   | (with_reducible exact LeO.none _)
   | (with_reducible refine LeO.ite ?_ ?_)
   | (with_reducible refine LeO.bind ?_ (fun _ => ?_))
   | exact ih0 _
   | exact numnahlaw07_ints.mono _ _ _
   | exact numnahref07_Same.mono _ _ _
   | exact shares_Award.mono _ _ _ _
   | exact shares_Fair.mono _ _ _
   | exact shares_Garment.mono _ _ _ _
   | exact LeO.none _
   | refine LeO.ite ?_ ?_
   | refine LeO.bind ?_ (fun _ => ?_)
def numnahlaw07_awake.T4 : Bool × List (List Nat × List Nat) := (true, [([], []), ([0], [0]), ([1], [1]), ([2], [2]), ([2, 2], [2]), ([4, 2], [2]), ([5, 2], [2]), ([4, 5, 6, 2], [2, 4, 5, 6]), ([3, 7, 6, 2], [2, 3, 7]), ([8, 2], [2, 8]), ([2, 9], [2, 9]), ([10, 8], [10]), ([11], [11]), ([12, 11], [11, 12]), ([11, 13], [11, 13]), ([14, 11], [14]), ([15], [15]), ([15, 15], [15]), ([16, 17, 15], [15, 16, 17]), ([15, 18], [15, 18]), ([19, 17], [19]), ([20], [20]), ([20, 20], [20]), ([21, 22, 20], [20, 21, 22]), ([20, 23], [20, 23]), ([24, 22], [24]), ([25], [25]), ([26, 25], [25, 26]), ([25, 27], [25, 27]), ([28, 25], [28]), ([29], [29]), ([29, 29], [29]), ([31, 29], [29]), ([31, 32, 29], [29, 31, 32]), ([30, 33, 32, 29], [29, 30, 33]), ([34, 29], [29, 34]), ([29, 35], [29, 35]), ([36, 34], [36]), ([37], [37]), ([37], [37]), ([38, 39, 37, 37], [37, 38, 39]), ([40, 37], [37, 40]), ([37, 41], [37, 41])])
def numnahlaw07_awake.B4 : List Nat := [0, 1, 3, 7, 7, 23, 55, 119, 255, 511, 1023, 2047, 4095, 8191, 16383, 32767, 65535, 65535, 262143, 524287, 1048575, 2097151, 2097151, 8388607, 16777215, 33554431, 67108863, 134217727, 268435455, 536870911, 1073741823, 1073741823, 3221225471, 7516192767, 17179869183, 34359738367, 68719476735, 137438953471, 274877906943, 274877906943, 1099511627775, 2199023255551, 4398046511103]
theorem numnahlaw07_awake.tab4 : rtab .any (opsOf Try.f22 4) = numnahlaw07_awake.T4 := by kernel_rfl
theorem numnahlaw07_awake.bits4 : waitsOk numnahlaw07_awake.T4.2 numnahlaw07_awake.B4 = true := by kernel_rfl
theorem j0_no : ∀ k, numnahlaw07_awake.j0 k true ≠ some true := by
 intro k
 cases k <;> simp [numnahlaw07_awake.j0]
set_option maxHeartbeats 8000000 in
set_option maxRecDepth 100000 in
theorem numnahlaw07_awake.callsT (k : Nat)  (r : Bool) (w : World) (h : numnahlaw07_awake.f k  = some r) (hrt_ : r = true) :
  Calls Try.prog 22 #[] w fun e w' => e = .returned (.bool r) ∧ Below w.heap.size w w' := by
 have HRT := A_ hrt_
 clear hrt_
 have hu23 := Try.underlying23
 have hu45 := Try.underlying45
 have HB := A_ (Below.refl w.heap.size w)
 have H : ((shares_Award.f k 3 (([100, 200, 300] : List Int)) 300).bind fun bt313 => ((shares_Garment.f k 100 50 100).bind fun bt317 => ((shares_Fair.f k (([10, 4] : List Int)) (([(⟨1, (([0, 1] : List Int))⟩ : S45), (⟨1, (([0] : List Int))⟩ : S45)] : List (S45)))).bind fun bt336 => (if bt313.2 = 0 then ((numnahref07_Whole.f 50).bind fun bt343 => ((numnahref07_Whole.f 100).bind fun bt345 => ((numnahref07_Whole.f 150).bind fun bt347 => ((numnahref07_Same.f k bt313.1 (([(⟨bt343.1, bt343.2⟩ : S23), (⟨bt345.1, bt345.2⟩ : S23), (⟨bt347.1, bt347.2⟩ : S23)] : List (S23)))).bind fun t352 => (if t352 = true then (if bt317.2.2.2.2 = 0 then ((numnahref07_Whole.f 25).bind fun bt353 => (if (!(bt317.1 == bt353.1) || (!(bt317.2.1 == bt353.2))) = true then (numnahlaw07_awake.j0 k true) else ((numnahref07_Whole.f 75).bind fun bt355 => (if (!(bt317.2.2.1 == bt355.1) || (!(bt317.2.2.2.1 == bt355.2))) = true then (numnahlaw07_awake.j0 k true) else (if bt336.2.2 = 0 then ((numnahref07_Whole.f 4).bind fun bt357 => ((numnahref07_Whole.f 6).bind fun bt359 => ((numnahref07_Same.f k bt336.1 (([(⟨bt357.1, bt357.2⟩ : S23), (⟨bt359.1, bt359.2⟩ : S23)] : List (S23)))).bind fun t364 => (if t364 = true then ((numnahlaw07_ints.f k bt336.2.1 (([1, 0] : List Int))).bind fun t368 => (numnahlaw07_awake.j0 k (!t368))) else (numnahlaw07_awake.j0 k true))))) else (numnahlaw07_awake.j0 k true)))))) else (numnahlaw07_awake.j0 k true)) else (numnahlaw07_awake.j0 k true)))))) else (numnahlaw07_awake.j0 k true))))) = some r := h
 clear h
 obtain ⟨y310, hy310⟩ : ∃ y_ : List Int, y_ = (([100, 200, 300] : List Int)) := ⟨_, rfl⟩
 replace H : ((shares_Award.f k 3 y310 300).bind fun bt313 => ((shares_Garment.f k 100 50 100).bind fun bt317 => ((shares_Fair.f k (([10, 4] : List Int)) (([(⟨1, (([0, 1] : List Int))⟩ : S45), (⟨1, (([0] : List Int))⟩ : S45)] : List (S45)))).bind fun bt336 => (if bt313.2 = 0 then ((numnahref07_Whole.f 50).bind fun bt343 => ((numnahref07_Whole.f 100).bind fun bt345 => ((numnahref07_Whole.f 150).bind fun bt347 => ((numnahref07_Same.f k bt313.1 (([(⟨bt343.1, bt343.2⟩ : S23), (⟨bt345.1, bt345.2⟩ : S23), (⟨bt347.1, bt347.2⟩ : S23)] : List (S23)))).bind fun t352 => (if t352 = true then (if bt317.2.2.2.2 = 0 then ((numnahref07_Whole.f 25).bind fun bt353 => (if (!(bt317.1 == bt353.1) || (!(bt317.2.1 == bt353.2))) = true then (numnahlaw07_awake.j0 k true) else ((numnahref07_Whole.f 75).bind fun bt355 => (if (!(bt317.2.2.1 == bt355.1) || (!(bt317.2.2.2.1 == bt355.2))) = true then (numnahlaw07_awake.j0 k true) else (if bt336.2.2 = 0 then ((numnahref07_Whole.f 4).bind fun bt357 => ((numnahref07_Whole.f 6).bind fun bt359 => ((numnahref07_Same.f k bt336.1 (([(⟨bt357.1, bt357.2⟩ : S23), (⟨bt359.1, bt359.2⟩ : S23)] : List (S23)))).bind fun t364 => (if t364 = true then ((numnahlaw07_ints.f k bt336.2.1 (([1, 0] : List Int))).bind fun t368 => (numnahlaw07_awake.j0 k (!t368))) else (numnahlaw07_awake.j0 k true))))) else (numnahlaw07_awake.j0 k true)))))) else (numnahlaw07_awake.j0 k true)) else (numnahlaw07_awake.j0 k true)))))) else (numnahlaw07_awake.j0 k true))))) = some r := by first | (rw [hy310]; with_reducible exact H) | (have H2_ := (Option.bind_some _ _).symm.trans H; rw [hy310]; with_reducible exact H2_) | (have H2_ := (Option.bind_some _ _).symm.trans H; with_reducible exact H2_) | with_reducible exact H | (rw [hy310]; exact H) | exact H
 have Ny310 := A_ hy310
 clear hy310
 replace H := Option.bind_eq_some_iff.mp H
 obtain ⟨⟨t313, t314⟩, A10, H⟩ := H
 dsimp only at H
 have A1 := A_ A10
 clear A10
 replace H := Option.bind_eq_some_iff.mp H
 obtain ⟨⟨t317, t318, t319, t320, t321⟩, A20, H⟩ := H
 dsimp only at H
 have A2 := A_ A20
 clear A20
 obtain ⟨y324, hy324⟩ : ∃ y_ : List Int, y_ = (([10, 4] : List Int)) := ⟨_, rfl⟩
 replace H : ((shares_Fair.f k y324 (([(⟨1, (([0, 1] : List Int))⟩ : S45), (⟨1, (([0] : List Int))⟩ : S45)] : List (S45)))).bind fun bt336 => (if t314 = 0 then ((numnahref07_Whole.f 50).bind fun bt343 => ((numnahref07_Whole.f 100).bind fun bt345 => ((numnahref07_Whole.f 150).bind fun bt347 => ((numnahref07_Same.f k t313 (([(⟨bt343.1, bt343.2⟩ : S23), (⟨bt345.1, bt345.2⟩ : S23), (⟨bt347.1, bt347.2⟩ : S23)] : List (S23)))).bind fun t352 => (if t352 = true then (if t321 = 0 then ((numnahref07_Whole.f 25).bind fun bt353 => (if (!(t317 == bt353.1) || (!(t318 == bt353.2))) = true then (numnahlaw07_awake.j0 k true) else ((numnahref07_Whole.f 75).bind fun bt355 => (if (!(t319 == bt355.1) || (!(t320 == bt355.2))) = true then (numnahlaw07_awake.j0 k true) else (if bt336.2.2 = 0 then ((numnahref07_Whole.f 4).bind fun bt357 => ((numnahref07_Whole.f 6).bind fun bt359 => ((numnahref07_Same.f k bt336.1 (([(⟨bt357.1, bt357.2⟩ : S23), (⟨bt359.1, bt359.2⟩ : S23)] : List (S23)))).bind fun t364 => (if t364 = true then ((numnahlaw07_ints.f k bt336.2.1 (([1, 0] : List Int))).bind fun t368 => (numnahlaw07_awake.j0 k (!t368))) else (numnahlaw07_awake.j0 k true))))) else (numnahlaw07_awake.j0 k true)))))) else (numnahlaw07_awake.j0 k true)) else (numnahlaw07_awake.j0 k true)))))) else (numnahlaw07_awake.j0 k true))) = some r := by first | (rw [hy324]; with_reducible exact H) | (have H2_ := (Option.bind_some _ _).symm.trans H; rw [hy324]; with_reducible exact H2_) | (have H2_ := (Option.bind_some _ _).symm.trans H; with_reducible exact H2_) | with_reducible exact H | (rw [hy324]; exact H) | exact H
 have Ny324 := A_ hy324
 clear hy324
 obtain ⟨y327, hy327⟩ : ∃ y_ : List Int, y_ = (([0, 1] : List Int)) := ⟨_, rfl⟩
 replace H : ((shares_Fair.f k y324 (([(⟨1, y327⟩ : S45), (⟨1, (([0] : List Int))⟩ : S45)] : List (S45)))).bind fun bt336 => (if t314 = 0 then ((numnahref07_Whole.f 50).bind fun bt343 => ((numnahref07_Whole.f 100).bind fun bt345 => ((numnahref07_Whole.f 150).bind fun bt347 => ((numnahref07_Same.f k t313 (([(⟨bt343.1, bt343.2⟩ : S23), (⟨bt345.1, bt345.2⟩ : S23), (⟨bt347.1, bt347.2⟩ : S23)] : List (S23)))).bind fun t352 => (if t352 = true then (if t321 = 0 then ((numnahref07_Whole.f 25).bind fun bt353 => (if (!(t317 == bt353.1) || (!(t318 == bt353.2))) = true then (numnahlaw07_awake.j0 k true) else ((numnahref07_Whole.f 75).bind fun bt355 => (if (!(t319 == bt355.1) || (!(t320 == bt355.2))) = true then (numnahlaw07_awake.j0 k true) else (if bt336.2.2 = 0 then ((numnahref07_Whole.f 4).bind fun bt357 => ((numnahref07_Whole.f 6).bind fun bt359 => ((numnahref07_Same.f k bt336.1 (([(⟨bt357.1, bt357.2⟩ : S23), (⟨bt359.1, bt359.2⟩ : S23)] : List (S23)))).bind fun t364 => (if t364 = true then ((numnahlaw07_ints.f k bt336.2.1 (([1, 0] : List Int))).bind fun t368 => (numnahlaw07_awake.j0 k (!t368))) else (numnahlaw07_awake.j0 k true))))) else (numnahlaw07_awake.j0 k true)))))) else (numnahlaw07_awake.j0 k true)) else (numnahlaw07_awake.j0 k true)))))) else (numnahlaw07_awake.j0 k true))) = some r := by first | (rw [hy327]; with_reducible exact H) | (have H2_ := (Option.bind_some _ _).symm.trans H; rw [hy327]; with_reducible exact H2_) | (have H2_ := (Option.bind_some _ _).symm.trans H; with_reducible exact H2_) | with_reducible exact H | (rw [hy327]; exact H) | exact H
 have Ny327 := A_ hy327
 clear hy327
 obtain ⟨y330, hy330⟩ : ∃ y_ : List Int, y_ = (([0] : List Int)) := ⟨_, rfl⟩
 replace H : ((shares_Fair.f k y324 (([(⟨1, y327⟩ : S45), (⟨1, y330⟩ : S45)] : List (S45)))).bind fun bt336 => (if t314 = 0 then ((numnahref07_Whole.f 50).bind fun bt343 => ((numnahref07_Whole.f 100).bind fun bt345 => ((numnahref07_Whole.f 150).bind fun bt347 => ((numnahref07_Same.f k t313 (([(⟨bt343.1, bt343.2⟩ : S23), (⟨bt345.1, bt345.2⟩ : S23), (⟨bt347.1, bt347.2⟩ : S23)] : List (S23)))).bind fun t352 => (if t352 = true then (if t321 = 0 then ((numnahref07_Whole.f 25).bind fun bt353 => (if (!(t317 == bt353.1) || (!(t318 == bt353.2))) = true then (numnahlaw07_awake.j0 k true) else ((numnahref07_Whole.f 75).bind fun bt355 => (if (!(t319 == bt355.1) || (!(t320 == bt355.2))) = true then (numnahlaw07_awake.j0 k true) else (if bt336.2.2 = 0 then ((numnahref07_Whole.f 4).bind fun bt357 => ((numnahref07_Whole.f 6).bind fun bt359 => ((numnahref07_Same.f k bt336.1 (([(⟨bt357.1, bt357.2⟩ : S23), (⟨bt359.1, bt359.2⟩ : S23)] : List (S23)))).bind fun t364 => (if t364 = true then ((numnahlaw07_ints.f k bt336.2.1 (([1, 0] : List Int))).bind fun t368 => (numnahlaw07_awake.j0 k (!t368))) else (numnahlaw07_awake.j0 k true))))) else (numnahlaw07_awake.j0 k true)))))) else (numnahlaw07_awake.j0 k true)) else (numnahlaw07_awake.j0 k true)))))) else (numnahlaw07_awake.j0 k true))) = some r := by first | (rw [hy330]; with_reducible exact H) | (have H2_ := (Option.bind_some _ _).symm.trans H; rw [hy330]; with_reducible exact H2_) | (have H2_ := (Option.bind_some _ _).symm.trans H; with_reducible exact H2_) | with_reducible exact H | (rw [hy330]; exact H) | exact H
 have Ny330 := A_ hy330
 clear hy330
 obtain ⟨y333, hy333⟩ : ∃ y_ : List (S45), y_ = (([(⟨1, y327⟩ : S45), (⟨1, y330⟩ : S45)] : List (S45))) := ⟨_, rfl⟩
 replace H : ((shares_Fair.f k y324 y333).bind fun bt336 => (if t314 = 0 then ((numnahref07_Whole.f 50).bind fun bt343 => ((numnahref07_Whole.f 100).bind fun bt345 => ((numnahref07_Whole.f 150).bind fun bt347 => ((numnahref07_Same.f k t313 (([(⟨bt343.1, bt343.2⟩ : S23), (⟨bt345.1, bt345.2⟩ : S23), (⟨bt347.1, bt347.2⟩ : S23)] : List (S23)))).bind fun t352 => (if t352 = true then (if t321 = 0 then ((numnahref07_Whole.f 25).bind fun bt353 => (if (!(t317 == bt353.1) || (!(t318 == bt353.2))) = true then (numnahlaw07_awake.j0 k true) else ((numnahref07_Whole.f 75).bind fun bt355 => (if (!(t319 == bt355.1) || (!(t320 == bt355.2))) = true then (numnahlaw07_awake.j0 k true) else (if bt336.2.2 = 0 then ((numnahref07_Whole.f 4).bind fun bt357 => ((numnahref07_Whole.f 6).bind fun bt359 => ((numnahref07_Same.f k bt336.1 (([(⟨bt357.1, bt357.2⟩ : S23), (⟨bt359.1, bt359.2⟩ : S23)] : List (S23)))).bind fun t364 => (if t364 = true then ((numnahlaw07_ints.f k bt336.2.1 (([1, 0] : List Int))).bind fun t368 => (numnahlaw07_awake.j0 k (!t368))) else (numnahlaw07_awake.j0 k true))))) else (numnahlaw07_awake.j0 k true)))))) else (numnahlaw07_awake.j0 k true)) else (numnahlaw07_awake.j0 k true)))))) else (numnahlaw07_awake.j0 k true))) = some r := by first | (rw [hy333]; with_reducible exact H) | (have H2_ := (Option.bind_some _ _).symm.trans H; rw [hy333]; with_reducible exact H2_) | (have H2_ := (Option.bind_some _ _).symm.trans H; with_reducible exact H2_) | with_reducible exact H | (rw [hy333]; exact H) | exact H
 have Ny333 := A_ hy333
 clear hy333
 replace H := Option.bind_eq_some_iff.mp H
 obtain ⟨⟨t336, t337, t338⟩, A30, H⟩ := H
 dsimp only at H
 have A3 := A_ A30
 clear A30
 have HC4 := A_ H
 clear H
 go_enter Try.func22, Try.ntmps22
 go_upto_region 4 with (first | ((with_reducible refine gate_dst (N := 10) rfl ?_); (try (refine gate_guard (by rfl) ?_; dsimp only)); refine Kd.R_lit (Kd.int .i64) _ 3 ?hg (N := 10) ?hd (xs := ([100, 200, 300] : List Int)) (inner := [.int .i64 100, .int .i64 200, .int .i64 300]) (ok := fun _ => True) (okp := fun _ => True) ?hr ?hp (fun _ hk => hk) trivial (Below.refl _ _) (Nat.le_refl _) (by simp) ?_; (case hd => rfl); (case hg => rfl); (case hr => first | (go_simp; done) | (go_simp; rfl)); (case hp => exact (Reps.one (show Kd.M (Kd.int .i64) _ _ _ 100 [.int .i64 100] from rfl) (Reps.one (show Kd.M (Kd.int .i64) _ _ _ 200 [.int .i64 200] from rfl) (Reps.one (show Kd.M (Kd.int .i64) _ _ _ 300 [.int .i64 300] from rfl) (Reps.none _ _))))); intro v311 w5 ho6 hb hg_ hnew_; clear hg_ hnew_; (first | rw [← Ny310.out] at ho6 | (simp only [Int.reduceToNat] at ho6; rw [← Ny310.out] at ho6)); have HO312 := A_ (Kd.R_lower ho6 (below_size (bl HB))); replace HB := bB HB hb; clear hb ho6; obtain ⟨Ao7, co7, eo7⟩ := Kd.R_slice HO312.out; subst eo7) | ((with_reducible refine gate_callee (f := 26) rfl ?_); refine goesL_ (some 11) rfl rfl Try.func26 (by kernel_rfl) rfl #[.int .i64 3, .slice Ao7 y310.length co7, .int .i64 300] rfl (by (try simp only [List.map_toArray, List.map_cons, List.map_nil]); first | done | rfl | (simp only [List.length_drop, List.length_take]; rfl)) ?_; (with_reducible refine (shares_Award.calls k 3 _ _ y310 300 t313 t314 _ ?side1 ?side2 A1.out).mono ?_); (case side1 => repeat (first | exact (Kd.R_reads' HO312.out).2.2 | (with_reducible refine Kd.C_alloc ?_ _) | (with_reducible refine Kd.C_drewN ?_ _) | (with_reducible refine Kd.C_drew ?_))); (case side2 => exact (Kd.R_reads' HO312.out).2.1); rintro e w8 ⟨v315, rfl, ho0, hb⟩; refine ⟨_, rfl, ?_⟩; have HO316 := A_ (Kd.R_lower ho0 (below_size (bl HB))); replace HO312 := rB HO312 hb; replace HB := bB HB hb; (try clear hb); (try clear hb2); (try clear hk); (try clear hi); (try clear ho0)) | ((with_reducible refine gate_callee (f := 20) rfl ?_); refine goesL_ (some 15) rfl rfl Try.func20 (by kernel_rfl) rfl #[.int .i64 100, .int .i64 50, .int .i64 100] rfl (by (try simp only [List.map_toArray, List.map_cons, List.map_nil]); first | done | rfl | (simp only [List.length_drop, List.length_take]; rfl)) ?_; (with_reducible refine (shares_Garment.calls k 100 50 100 t317 t318 t319 t320 t321 _ A2.out).mono ?_); rintro e w9 ⟨rfl, hb⟩; refine ⟨_, rfl, ?_⟩; replace HO312 := rB HO312 hb; replace HO316 := rB HO316 hb; replace HB := bB HB hb; (try clear hb); (try clear hb2); (try clear hk); (try clear hi)) | ((with_reducible refine gate_dst (N := 3) rfl ?_); (try (refine gate_guard (by rfl) ?_; dsimp only)); refine box_event ?hg (N := 3) ?hd (cs := #[.int .i64 0, .int .i64 0]) (t := 23) ?hr ?_; (case hd => rfl); (case hg => rfl); (case hr => first | (go_simp; done) | (go_simp; rfl)); intro gb322 hg w10 hbox hb; have BK322 := A_ hbox; have GW322 := gw hg HB; have GE322 := GW322; replace HO312 := rB HO312 hb; replace HO316 := A_ (Kd.R_below (Kd.R_elderB HO316.out gb322 (Nat.le_of_eq hg.symm)) hb); replace HB := bB HB hb; clear hb hbox hg) | ((with_reducible refine gate_dst (N := 4) rfl ?_); (try (refine gate_guard (by rfl) ?_; dsimp only)); refine box_event ?hg (N := 4) ?hd (cs := #[.int .i64 0, .int .i64 0]) (t := 23) ?hr ?_; (case hd => rfl); (case hg => rfl); (case hr => first | (go_simp; done) | (go_simp; rfl)); intro gb323 hg w11 hbox hb; have BK323 := A_ hbox; have GW323 := gw hg HB; have GE323 := GW323; have NB322_323 := nl hg BK322; have NB323_322 := ng hg BK322; replace HO312 := rB HO312 hb; replace HO316 := A_ (Kd.R_below (Kd.R_elderB HO316.out gb323 (Nat.le_of_eq hg.symm)) hb); replace BK322 := kB BK322 hb; replace HB := bB HB hb; clear hb hbox hg; have hnb12 := NB322_323.out; have hnc12 := NB323_322.out; have hcz13_0 : w11.cell? ⟨gb322, 0, none⟩ = some (.int .i64 0) := cz BK322 0; have hcz13_1 : w11.cell? ⟨gb322, 1, none⟩ = some (.int .i64 0) := cz BK322 1; have hfz13_0 := blk_frozen BK322.out 0; have hfz13_1 := blk_frozen BK322.out 1; have hcz14_0 : w11.cell? ⟨gb323, 0, none⟩ = some (.int .i64 0) := cz BK323 0; have hcz14_1 : w11.cell? ⟨gb323, 1, none⟩ = some (.int .i64 0) := cz BK323 1; have hfz14_0 := blk_frozen BK323.out 0; have hfz14_1 := blk_frozen BK323.out 1) | ((with_reducible refine gate_dst (N := 20) rfl ?_); (try (refine gate_guard (by rfl) ?_; dsimp only)); refine Kd.R_lit (Kd.int .i64) _ 3 ?hg (N := 20) ?hd (xs := ([10, 4] : List Int)) (inner := [.int .i64 10, .int .i64 4]) (ok := fun _ => True) (okp := fun _ => True) ?hr ?hp (fun _ hk => hk) trivial (Below.refl _ _) (Nat.le_refl _) (by simp) ?_; (case hd => rfl); (case hg => rfl); (case hr => first | (go_simp; done) | (go_simp; rfl)); (case hp => exact (Reps.one (show Kd.M (Kd.int .i64) _ _ _ 10 [.int .i64 10] from rfl) (Reps.one (show Kd.M (Kd.int .i64) _ _ _ 4 [.int .i64 4] from rfl) (Reps.none _ _)))); intro v325 w15 ho16 hb hg_ hnew_; clear hg_ hnew_; (first | rw [← Ny324.out] at ho16 | (simp only [Int.reduceToNat] at ho16; rw [← Ny324.out] at ho16)); have HO326 := A_ (Kd.R_lower (Kd.R_new' ho16 (Kd.R_lt (by (with_reducible repeat (first | apply Kd.R_alloc | apply Kd.R_drewN | apply Kd.R_drew)); exact (Kd.R_mono (Kd.R_mono (Kd.R_far (p := ⟨gb323, 1, none⟩) (Kd.R_far (p := ⟨gb323, 0, none⟩) (Kd.R_far (p := ⟨gb322, 1, none⟩) (Kd.R_far (p := ⟨gb322, 0, none⟩) (Kd.R_types (Kd.R_types HO312.out BK322.out (by decide)) BK323.out (by decide)) (fun _ hk => hk.1.2) (.int .i64 t317)) (fun _ hk => hk.1.2) (.int .i64 t318)) (fun _ hk => hk.2) (.int .i64 t319)) (fun _ hk => hk.2) (.int .i64 t320)) (fun _ h_ => h_.1)) (fun _ h_ => h_.1))))) (below_size (bl HB))); replace HO312 := A_ (Kd.R_elder' (by (with_reducible repeat (first | apply Kd.R_alloc | apply Kd.R_drewN | apply Kd.R_drew)); exact (Kd.R_mono (Kd.R_mono (Kd.R_far (p := ⟨gb323, 1, none⟩) (Kd.R_far (p := ⟨gb323, 0, none⟩) (Kd.R_far (p := ⟨gb322, 1, none⟩) (Kd.R_far (p := ⟨gb322, 0, none⟩) (Kd.R_types (Kd.R_types HO312.out BK322.out (by decide)) BK323.out (by decide)) (fun _ hk => hk.1.2) (.int .i64 t317)) (fun _ hk => hk.1.2) (.int .i64 t318)) (fun _ hk => hk.2) (.int .i64 t319)) (fun _ hk => hk.2) (.int .i64 t320)) (fun _ h_ => h_.1)) (fun _ h_ => h_.1))) (Kd.R_base ho16) hb); replace HO316 := A_ (Kd.R_below (by (with_reducible repeat (first | apply Kd.R_alloc | apply Kd.R_drewN | apply Kd.R_drew)); exact (Kd.R_mono (Kd.R_mono (Kd.R_far (p := ⟨gb323, 1, none⟩) (Kd.R_far (p := ⟨gb323, 0, none⟩) (Kd.R_far (p := ⟨gb322, 1, none⟩) (Kd.R_far (p := ⟨gb322, 0, none⟩) (Kd.R_mono (Kd.R_mono HO316.out (fun k_ hk => (⟨hk, hk.1.2⟩ : _ ∧ k_ ≠ gb322))) (fun k_ hk => (⟨hk, hk.1.2⟩ : _ ∧ k_ ≠ gb323))) (fun _ hk => hk.1.2) (.int .i64 t317)) (fun _ hk => hk.1.2) (.int .i64 t318)) (fun _ hk => hk.2) (.int .i64 t319)) (fun _ hk => hk.2) (.int .i64 t320)) (fun _ h_ => h_.1)) (fun _ h_ => h_.1))) hb); replace BK322 := A_ (blk_below (g := gb322) (o := .cells #[.int .i64 t317, .int .i64 t318] 23 (0, 0)) (by (with_reducible repeat (first | refine blk_drewN ?_ _ | refine blk_drew ?_ | refine blk_alloc ?_ _)); refine blk_far ?_ NB322_323.out _; (with_reducible repeat (first | refine blk_drewN ?_ _ | refine blk_drew ?_ | refine blk_alloc ?_ _)); refine blk_far ?_ NB322_323.out _; (with_reducible repeat (first | refine blk_drewN ?_ _ | refine blk_drew ?_ | refine blk_alloc ?_ _)); refine blk_put (cs := #[.int .i64 t317, .int .i64 0]) ?_ 1 _ rfl; (with_reducible repeat (first | refine blk_drewN ?_ _ | refine blk_drew ?_ | refine blk_alloc ?_ _)); refine blk_put (cs := #[.int .i64 0, .int .i64 0]) ?_ 0 _ rfl; (with_reducible repeat (first | refine blk_drewN ?_ _ | refine blk_drew ?_ | refine blk_alloc ?_ _)); exact BK322.out) hb); replace BK323 := A_ (blk_below (g := gb323) (o := .cells #[.int .i64 t319, .int .i64 t320] 23 (0, 0)) (by (with_reducible repeat (first | refine blk_drewN ?_ _ | refine blk_drew ?_ | refine blk_alloc ?_ _)); refine blk_put (cs := #[.int .i64 t319, .int .i64 0]) ?_ 1 _ rfl; (with_reducible repeat (first | refine blk_drewN ?_ _ | refine blk_drew ?_ | refine blk_alloc ?_ _)); refine blk_put (cs := #[.int .i64 0, .int .i64 0]) ?_ 0 _ rfl; (with_reducible repeat (first | refine blk_drewN ?_ _ | refine blk_drew ?_ | refine blk_alloc ?_ _)); refine blk_far ?_ NB323_322.out _; (with_reducible repeat (first | refine blk_drewN ?_ _ | refine blk_drew ?_ | refine blk_alloc ?_ _)); refine blk_far ?_ NB323_322.out _; (with_reducible repeat (first | refine blk_drewN ?_ _ | refine blk_drew ?_ | refine blk_alloc ?_ _)); exact BK323.out) hb); replace HB := bB HB hb; clear hb ho16) | ((with_reducible refine gate_dst (N := 21) rfl ?_); (try (refine gate_guard (by rfl) ?_; dsimp only)); refine Kd.R_lit (Kd.int .i64) _ 3 ?hg (N := 21) ?hd (xs := ([0, 1] : List Int)) (inner := [.int .i64 0, .int .i64 1]) (ok := fun _ => True) (okp := fun _ => True) ?hr ?hp (fun _ hk => hk) trivial (Below.refl _ _) (Nat.le_refl _) (by simp) ?_; (case hd => rfl); (case hg => rfl); (case hr => first | (go_simp; done) | (go_simp; rfl)); (case hp => exact (Reps.one (show Kd.M (Kd.int .i64) _ _ _ 0 [.int .i64 0] from rfl) (Reps.one (show Kd.M (Kd.int .i64) _ _ _ 1 [.int .i64 1] from rfl) (Reps.none _ _)))); intro v328 w17 ho18 hb hg_ hnew_; clear hg_ hnew_; (first | rw [← Ny327.out] at ho18 | (simp only [Int.reduceToNat] at ho18; rw [← Ny327.out] at ho18)); have HO329 := A_ (Kd.R_lower (Kd.R_new' (Kd.R_new' ho18 (Kd.R_lt HO312.out)) (Kd.R_lt HO326.out)) (below_size (bl HB))); replace HO312 := A_ (Kd.R_elder' HO312.out (Kd.R_base ho18) hb); replace HO316 := rB HO316 hb; replace HO326 := A_ (Kd.R_elder' HO326.out (Kd.R_base ho18) hb); replace BK322 := kB BK322 hb; replace BK323 := kB BK323 hb; replace HB := bB HB hb; clear hb ho18; obtain ⟨Ao19, co19, eo19⟩ := Kd.R_slice HO329.out; subst eo19) | ((with_reducible refine gate_dst (N := 23) rfl ?_); (try (refine gate_guard (by rfl) ?_; dsimp only)); refine Kd.R_lit (Kd.int .i64) _ 3 ?hg (N := 23) ?hd (xs := ([0] : List Int)) (inner := [.int .i64 0]) (ok := fun _ => True) (okp := fun _ => True) ?hr ?hp (fun _ hk => hk) trivial (Below.refl _ _) (Nat.le_refl _) (by simp) ?_; (case hd => rfl); (case hg => rfl); (case hr => first | (go_simp; done) | (go_simp; rfl)); (case hp => exact (Reps.one (show Kd.M (Kd.int .i64) _ _ _ 0 [.int .i64 0] from rfl) (Reps.none _ _))); intro v331 w20 ho21 hb hg_ hnew_; clear hg_ hnew_; (first | rw [← Ny330.out] at ho21 | (simp only [Int.reduceToNat] at ho21; rw [← Ny330.out] at ho21)); have HO332 := A_ (Kd.R_lower (Kd.R_new' (Kd.R_new' (Kd.R_new' ho21 (Kd.R_lt HO312.out)) (Kd.R_lt HO326.out)) (Kd.R_lt HO329.out)) (below_size (bl HB))); replace HO312 := A_ (Kd.R_elder' HO312.out (Kd.R_base ho21) hb); replace HO316 := rB HO316 hb; replace HO326 := A_ (Kd.R_elder' HO326.out (Kd.R_base ho21) hb); replace HO329 := A_ (Kd.R_elder' HO329.out (Kd.R_base ho21) hb); replace BK322 := kB BK322 hb; replace BK323 := kB BK323 hb; replace HB := bB HB hb; clear hb ho21; obtain ⟨Ao22, co22, eo22⟩ := Kd.R_slice HO332.out; subst eo22) | ((with_reducible refine gate_dst (N := 25) rfl ?_); (try (refine gate_guard (by rfl) ?_; dsimp only)); refine Kd.N_lit k45 _ 45 ?hg (N' := 25) ?hd (xs := ([(⟨1, y327⟩ : S45), (⟨1, y330⟩ : S45)] : List (S45))) (inner := [.int .i64 1, .slice Ao19 y327.length co19, .int .i64 1, .slice Ao22 y330.length co22]) (ok := (fun k_ => some k_ ≠ (.slice Ao7 y310.length co7 : Value).ownBlock ∧ some k_ ≠ (v315 : Value).ownBlock ∧ some k_ ≠ (v325 : Value).ownBlock ∧ k_ ≠ gb322 ∧ k_ ≠ gb323)) (okp := (fun k_ => some k_ ≠ (.slice Ao7 y310.length co7 : Value).ownBlock ∧ some k_ ≠ (v315 : Value).ownBlock ∧ some k_ ≠ (v325 : Value).ownBlock ∧ k_ ≠ gb322 ∧ k_ ≠ gb323)) ?hr ?hp (fun _ hk => hk) ((show ∀ k_, w20.heap.size ≤ k_ → (fun k_ => some k_ ≠ (.slice Ao7 y310.length co7 : Value).ownBlock ∧ some k_ ≠ (v315 : Value).ownBlock ∧ some k_ ≠ (v325 : Value).ownBlock ∧ k_ ≠ gb322 ∧ k_ ≠ gb323) k_ from fun k_ hk => ⟨Kd.fresh' (Kd.R_lt HO312.out) k_ hk, Kd.fresh' (Kd.R_lt HO316.out) k_ hk, Kd.fresh' (Kd.R_lt HO326.out) k_ hk, Kd.freshB (g := gb322) (o := .cells #[.int .i64 t317, .int .i64 t318] 23 (0, 0)) BK322.out k_ hk, Kd.freshB (g := gb323) (o := .cells #[.int .i64 t319, .int .i64 t320] 23 (0, 0)) BK323.out k_ hk⟩) _ (Nat.le_refl _)) (Below.refl _ _) (Nat.le_refl _) (by simp) ?_; (case hd => rfl); (case hg => rfl); (case hr => first | (go_simp; done) | (go_simp; rfl)); (case hp => exact (Reps.c2 (show Kd.FK k45 _ _ (⟨1, y327⟩ : S45) [.int .i64 1, .slice Ao19 y327.length co19] from (k45_mkF _ _ (⟨1, y327⟩ : S45) (Kd.R_reads' (Kd.R_mono (ok' := (fun k_ => some k_ ≠ (.slice Ao7 y310.length co7 : Value).ownBlock ∧ some k_ ≠ (v315 : Value).ownBlock ∧ some k_ ≠ (v325 : Value).ownBlock ∧ k_ ≠ gb322 ∧ k_ ≠ gb323)) (Kd.R_types (Kd.R_types (Kd.R_apart' (HO329.out) (Kd.R_typed HO316.out) (by decide)) BK322.out (by decide)) BK323.out (by decide)) (fun k_ hk => ⟨hk.1.1.1.1.1.2, ⟨hk.1.1.2, ⟨hk.1.1.1.1.2, ⟨hk.1.2, hk.2⟩⟩⟩⟩))).2.1 (Kd.R_F (Kd.R_mono (ok' := (fun k_ => some k_ ≠ (.slice Ao7 y310.length co7 : Value).ownBlock ∧ some k_ ≠ (v315 : Value).ownBlock ∧ some k_ ≠ (v325 : Value).ownBlock ∧ k_ ≠ gb322 ∧ k_ ≠ gb323)) (Kd.R_types (Kd.R_types (Kd.R_apart' (HO329.out) (Kd.R_typed HO316.out) (by decide)) BK322.out (by decide)) BK323.out (by decide)) (fun k_ hk => ⟨hk.1.1.1.1.1.2, ⟨hk.1.1.2, ⟨hk.1.1.1.1.2, ⟨hk.1.2, hk.2⟩⟩⟩⟩))))) (Reps.c2 (show Kd.FK k45 _ _ (⟨1, y330⟩ : S45) [.int .i64 1, .slice Ao22 y330.length co22] from (k45_mkF _ _ (⟨1, y330⟩ : S45) (Kd.R_reads' (Kd.R_mono (ok' := (fun k_ => some k_ ≠ (.slice Ao7 y310.length co7 : Value).ownBlock ∧ some k_ ≠ (v315 : Value).ownBlock ∧ some k_ ≠ (v325 : Value).ownBlock ∧ k_ ≠ gb322 ∧ k_ ≠ gb323)) (Kd.R_types (Kd.R_types (Kd.R_apart' (HO332.out) (Kd.R_typed HO316.out) (by decide)) BK322.out (by decide)) BK323.out (by decide)) (fun k_ hk => ⟨hk.1.1.1.1.1.2, ⟨hk.1.1.2, ⟨hk.1.1.1.1.2, ⟨hk.1.2, hk.2⟩⟩⟩⟩))).2.1 (Kd.R_F (Kd.R_mono (ok' := (fun k_ => some k_ ≠ (.slice Ao7 y310.length co7 : Value).ownBlock ∧ some k_ ≠ (v315 : Value).ownBlock ∧ some k_ ≠ (v325 : Value).ownBlock ∧ k_ ≠ gb322 ∧ k_ ≠ gb323)) (Kd.R_types (Kd.R_types (Kd.R_apart' (HO332.out) (Kd.R_typed HO316.out) (by decide)) BK322.out (by decide)) BK323.out (by decide)) (fun k_ hk => ⟨hk.1.1.1.1.1.2, ⟨hk.1.1.2, ⟨hk.1.1.1.1.2, ⟨hk.1.2, hk.2⟩⟩⟩⟩))))) (Reps.none _ _)))); intro v334 w23 ho24 hb hg_ hnew_; clear hg_ hnew_; (first | rw [← Ny333.out] at ho24 | (simp only [Int.reduceToNat] at ho24; rw [← Ny333.out] at ho24)); have HO335 := A_ (Kd.N_lower ho24 (below_size (bl HB))); replace HO312 := rB HO312 hb; replace HO316 := rB HO316 hb; replace HO326 := rB HO326 hb; replace BK322 := kB BK322 hb; replace BK323 := kB BK323 hb; replace HB := bB HB hb; clear HO329 HO332; clear hb ho24; obtain ⟨Ao25, co25, eo25⟩ := Kd.R_slice HO326.out; subst eo25; obtain ⟨Ao26, co26, eo26⟩ := Kd.N_slice HO335.out; subst eo26) | ((with_reducible refine gate_callee (f := 32) rfl ?_); refine goesL_ (some 26) rfl rfl Try.func32 (by kernel_rfl) rfl #[.slice Ao25 y324.length co25, .slice Ao26 y333.length co26] rfl (by (try simp only [List.map_toArray, List.map_cons, List.map_nil]); first | done | rfl | (simp only [List.length_drop, List.length_take]; rfl)) ?_; (with_reducible refine (shares_Fair.calls k _ _ y324 _ _ y333 t336 t337 t338 _ ?side1 ?side2 ?side3 ?side4 A3.out).mono ?_); (case side1 => repeat (first | exact (Kd.R_reads' HO326.out).2.2 | (with_reducible refine Kd.C_alloc ?_ _) | (with_reducible refine Kd.C_drewN ?_ _) | (with_reducible refine Kd.C_drew ?_))); (case side2 => exact (Kd.R_reads' HO326.out).2.1); (case side3 => repeat (first | exact (Kd.N_reads' HO335.out).2.2 | (with_reducible refine Kd.C_alloc ?_ _) | (with_reducible refine Kd.C_drewN ?_ _) | (with_reducible refine Kd.C_drew ?_))); (case side4 => exact (Kd.N_reads' HO335.out).2.1); rintro e w27 ⟨v339, v341, rfl, ho0, ho1, hb⟩; refine ⟨_, rfl, ?_⟩; have HO340 := A_ (Kd.R_lower (Kd.R_newB (Kd.R_newB (Kd.R_new' ho0 (Kd.R_lt HO316.out)) (g := gb322) (o := .cells #[.int .i64 t317, .int .i64 t318] 23 (0, 0)) BK322.out) (g := gb323) (o := .cells #[.int .i64 t319, .int .i64 t320] 23 (0, 0)) BK323.out) (below_size (bl HB))); have HO342 := A_ (Kd.R_lower (Kd.R_new' (Kd.R_new' ho1 (Kd.R_lt HO312.out)) (Kd.R_lt HO326.out)) (below_size (bl HB))); replace HO312 := A_ (Kd.R_elder' HO312.out (Kd.R_base ho1) hb); replace HO316 := A_ (Kd.R_elder' HO316.out (Kd.R_base ho0) hb); replace HO326 := A_ (Kd.R_elder' HO326.out (Kd.R_base ho1) hb); replace HO335 := A_ (Kd.N_mono (Kd.N_told (Kd.N_told (Kd.N_old HO335.out hb) (Kd.R_base ho0)) (Kd.R_base ho1)) (fun _ h_ => h_.1)); replace BK322 := kB BK322 hb; replace BK323 := kB BK323 hb; replace HB := bB HB hb; (try clear hb); (try clear hb2); (try clear hk); (try clear hi); (try clear ho0); (try clear ho1)))
 (try simp only [Act.put, List.setIfInBounds_toArray, List.set_cons_zero, List.set_cons_succ])
 go_cut [72] (fun v72 wc => ∃ (kq : Nat) (x72_3 : Bool), v72 = .bool x72_3 ∧ Aside0 (numnahlaw07_awake.j0 kq x72_3 = some r) ∧ Aside0 (kq ≤ k) ∧ Aside0 (wc.heap[gb322]? = some (.cells #[.int .i64 t317, .int .i64 t318] 23 (0, 0))) ∧ Aside0 (wc.heap[gb323]? = some (.cells #[.int .i64 t319, .int .i64 t320] 23 (0, 0))) ∧ Aside0 (Below w.heap.size w wc))
 case first =>
  have H := HC4.out
  clear HC4
  by_cases c28 : t314 = 0
  ·rw [if_pos c28] at H
   have c28b0 : (t314 == 0) = true := beq_iff_eq.mpr c28
   have c28b1 : (t314 != 0) = false := bne_eq_false_iff_eq.mpr c28
   clear c28
   (first | rw [c28b0] | (simp only [i64_w, i32_w]; rw [c28b0]) | skip)
   replace H := Option.bind_eq_some_iff.mp H
   obtain ⟨⟨t343, t344⟩, A290, H⟩ := H
   dsimp only at H
   have A29 := A_ A290
   clear A290
   replace H := Option.bind_eq_some_iff.mp H
   obtain ⟨⟨t345, t346⟩, A300, H⟩ := H
   dsimp only at H
   have A30 := A_ A300
   clear A300
   replace H := Option.bind_eq_some_iff.mp H
   obtain ⟨⟨t347, t348⟩, A310, H⟩ := H
   dsimp only at H
   have A31 := A_ A310
   clear A310
   obtain ⟨y349, hy349⟩ : ∃ y_ : List (S23), y_ = (([(⟨t343, t344⟩ : S23), (⟨t345, t346⟩ : S23), (⟨t347, t348⟩ : S23)] : List (S23))) := ⟨_, rfl⟩
   replace H : ((numnahref07_Same.f k t313 y349).bind fun t352 => (if t352 = true then (if t321 = 0 then ((numnahref07_Whole.f 25).bind fun bt353 => (if (!(t317 == bt353.1) || (!(t318 == bt353.2))) = true then (numnahlaw07_awake.j0 k true) else ((numnahref07_Whole.f 75).bind fun bt355 => (if (!(t319 == bt355.1) || (!(t320 == bt355.2))) = true then (numnahlaw07_awake.j0 k true) else (if t338 = 0 then ((numnahref07_Whole.f 4).bind fun bt357 => ((numnahref07_Whole.f 6).bind fun bt359 => ((numnahref07_Same.f k t336 (([(⟨bt357.1, bt357.2⟩ : S23), (⟨bt359.1, bt359.2⟩ : S23)] : List (S23)))).bind fun t364 => (if t364 = true then ((numnahlaw07_ints.f k t337 (([1, 0] : List Int))).bind fun t368 => (numnahlaw07_awake.j0 k (!t368))) else (numnahlaw07_awake.j0 k true))))) else (numnahlaw07_awake.j0 k true)))))) else (numnahlaw07_awake.j0 k true)) else (numnahlaw07_awake.j0 k true))) = some r := by first | (rw [hy349]; with_reducible exact H) | (have H2_ := (Option.bind_some _ _).symm.trans H; rw [hy349]; with_reducible exact H2_) | (have H2_ := (Option.bind_some _ _).symm.trans H; with_reducible exact H2_) | with_reducible exact H | (rw [hy349]; exact H) | exact H
   have Ny349 := A_ hy349
   clear hy349
   replace H := Option.bind_eq_some_iff.mp H
   obtain ⟨t352, A320, H⟩ := H
   replace H : (if t352 = true then (if t321 = 0 then ((numnahref07_Whole.f 25).bind fun bt353 => (if (!(t317 == bt353.1) || (!(t318 == bt353.2))) = true then (numnahlaw07_awake.j0 k true) else ((numnahref07_Whole.f 75).bind fun bt355 => (if (!(t319 == bt355.1) || (!(t320 == bt355.2))) = true then (numnahlaw07_awake.j0 k true) else (if t338 = 0 then ((numnahref07_Whole.f 4).bind fun bt357 => ((numnahref07_Whole.f 6).bind fun bt359 => ((numnahref07_Same.f k t336 (([(⟨bt357.1, bt357.2⟩ : S23), (⟨bt359.1, bt359.2⟩ : S23)] : List (S23)))).bind fun t364 => (if t364 = true then ((numnahlaw07_ints.f k t337 (([1, 0] : List Int))).bind fun t368 => (numnahlaw07_awake.j0 k (!t368))) else (numnahlaw07_awake.j0 k true))))) else (numnahlaw07_awake.j0 k true)))))) else (numnahlaw07_awake.j0 k true)) else (numnahlaw07_awake.j0 k true)) = some r := H
   have A32 := A_ A320
   clear A320
   by_cases c33 : t352 = true
   ·subst c33
    have H1 : (if t321 = 0 then ((numnahref07_Whole.f 25).bind fun bt353 => (if (!(t317 == bt353.1) || (!(t318 == bt353.2))) = true then (numnahlaw07_awake.j0 k true) else ((numnahref07_Whole.f 75).bind fun bt355 => (if (!(t319 == bt355.1) || (!(t320 == bt355.2))) = true then (numnahlaw07_awake.j0 k true) else (if t338 = 0 then ((numnahref07_Whole.f 4).bind fun bt357 => ((numnahref07_Whole.f 6).bind fun bt359 => ((numnahref07_Same.f k t336 (([(⟨bt357.1, bt357.2⟩ : S23), (⟨bt359.1, bt359.2⟩ : S23)] : List (S23)))).bind fun t364 => (if t364 = true then ((numnahlaw07_ints.f k t337 (([1, 0] : List Int))).bind fun t368 => (numnahlaw07_awake.j0 k (!t368))) else (numnahlaw07_awake.j0 k true))))) else (numnahlaw07_awake.j0 k true)))))) else (numnahlaw07_awake.j0 k true)) = some r := by rw [if_pos rfl] at H; exact H
    clear H
    have H := H1
    clear H1
    by_cases c34 : t321 = 0
    ·rw [if_pos c34] at H
     have c34b0 : (t321 == 0) = true := beq_iff_eq.mpr c34
     have c34b1 : (t321 != 0) = false := bne_eq_false_iff_eq.mpr c34
     clear c34
     replace H := Option.bind_eq_some_iff.mp H
     obtain ⟨⟨t353, t354⟩, A350, H⟩ := H
     dsimp only at H
     have A35 := A_ A350
     clear A350
     by_cases c36 : (!(t317 == t353) || (!(t318 == t354))) = true
     ·rw [if_pos c36] at H
      exact absurd (H.trans (congrArg some HRT.out)) (j0_no k)
     ·rw [if_neg c36] at H
      have c36b0 : (!(t317 == t353) || (!(t318 == t354))) = false := by simpa using c36
      clear c36
      replace H := Option.bind_eq_some_iff.mp H
      obtain ⟨⟨t355, t356⟩, A460, H⟩ := H
      dsimp only at H
      have A46 := A_ A460
      clear A460
      by_cases c47 : (!(t319 == t355) || (!(t320 == t356))) = true
      ·rw [if_pos c47] at H
       exact absurd (H.trans (congrArg some HRT.out)) (j0_no k)
      ·rw [if_neg c47] at H
       have c47b0 : (!(t319 == t355) || (!(t320 == t356))) = false := by simpa using c47
       clear c47
       by_cases c58 : t338 = 0
       ·rw [if_pos c58] at H
        have c58b0 : (t338 == 0) = true := beq_iff_eq.mpr c58
        have c58b1 : (t338 != 0) = false := bne_eq_false_iff_eq.mpr c58
        clear c58
        replace H := Option.bind_eq_some_iff.mp H
        obtain ⟨⟨t357, t358⟩, A590, H⟩ := H
        dsimp only at H
        have A59 := A_ A590
        clear A590
        replace H := Option.bind_eq_some_iff.mp H
        obtain ⟨⟨t359, t360⟩, A600, H⟩ := H
        dsimp only at H
        have A60 := A_ A600
        clear A600
        obtain ⟨y361, hy361⟩ : ∃ y_ : List (S23), y_ = (([(⟨t357, t358⟩ : S23), (⟨t359, t360⟩ : S23)] : List (S23))) := ⟨_, rfl⟩
        replace H : ((numnahref07_Same.f k t336 y361).bind fun t364 => (if t364 = true then ((numnahlaw07_ints.f k t337 (([1, 0] : List Int))).bind fun t368 => (numnahlaw07_awake.j0 k (!t368))) else (numnahlaw07_awake.j0 k true))) = some r := by first | (rw [hy361]; with_reducible exact H) | (have H2_ := (Option.bind_some _ _).symm.trans H; rw [hy361]; with_reducible exact H2_) | (have H2_ := (Option.bind_some _ _).symm.trans H; with_reducible exact H2_) | with_reducible exact H | (rw [hy361]; exact H) | exact H
        have Ny361 := A_ hy361
        clear hy361
        replace H := Option.bind_eq_some_iff.mp H
        obtain ⟨t364, A610, H⟩ := H
        replace H : (if t364 = true then ((numnahlaw07_ints.f k t337 (([1, 0] : List Int))).bind fun t368 => (numnahlaw07_awake.j0 k (!t368))) else (numnahlaw07_awake.j0 k true)) = some r := H
        have A61 := A_ A610
        clear A610
        by_cases c62 : t364 = true
        ·subst c62
         have H1 : ((numnahlaw07_ints.f k t337 (([1, 0] : List Int))).bind fun t368 => (numnahlaw07_awake.j0 k (!t368))) = some r := by rw [if_pos rfl] at H; exact H
         clear H
         have H := H1
         clear H1
         obtain ⟨y365, hy365⟩ : ∃ y_ : List Int, y_ = (([1, 0] : List Int)) := ⟨_, rfl⟩
         replace H : ((numnahlaw07_ints.f k t337 y365).bind fun t368 => (numnahlaw07_awake.j0 k (!t368))) = some r := by first | (rw [hy365]; with_reducible exact H) | (have H2_ := (Option.bind_some _ _).symm.trans H; rw [hy365]; with_reducible exact H2_) | (have H2_ := (Option.bind_some _ _).symm.trans H; with_reducible exact H2_) | with_reducible exact H | (rw [hy365]; exact H) | exact H
         have Ny365 := A_ hy365
         clear hy365
         replace H := Option.bind_eq_some_iff.mp H
         obtain ⟨t368, A630, H⟩ := H
         replace H : (numnahlaw07_awake.j0 k (!t368)) = some r := H
         have A63 := A_ A630
         clear A630
         have H' := A_ H
         clear H
         try go_wp2
         replace HO312 := A_ (Kd.R_drew HO312.out)
         replace HO316 := A_ (Kd.R_drew HO316.out)
         replace HO326 := A_ (Kd.R_drew HO326.out)
         replace HO335 := A_ (Kd.N_drew HO335.out)
         replace HO340 := A_ (Kd.R_drew HO340.out)
         replace HO342 := A_ (Kd.R_drew HO342.out)
         replace BK322 := A_ (blk_drew BK322.out)
         replace BK323 := A_ (blk_drew BK323.out)
         replace HB := A_ (below_drew1 HB.out)
         refine start_ (n := 43) (S := fun w' => w'.cell? ⟨gb322, 0, none⟩ = some (.int .i64 t317) ∧ w'.cell? ⟨gb322, 1, none⟩ = some (.int .i64 t318) ∧ w'.cell? ⟨gb323, 0, none⟩ = some (.int .i64 t319) ∧ w'.cell? ⟨gb323, 1, none⟩ = some (.int .i64 t320)) (ds := []) (ba 43 0) (by kernel_rfl) rfl rfl ⟨cz BK322 0, cz BK322 1, cz BK323 0, cz BK323 1⟩ (fun hHeld => ?_); refine with_tabW numnahlaw07_awake.tab4 numnahlaw07_awake.bits4 (fun HT_ HW_ => ?_)
         generalize w27.drew = w64 at HO312 HO316 HO326 HO335 HO340 HO342 BK322 BK323 HB hHeld ⊢
         refine pq 0 30 1 HT_ ?_
         refine pq 1 31 3 HT_ ?_
         refine pq 2 32 7 HT_ ?_
         refine pq 3 33 15 HT_ ?_
         refine oq 4 34 31 HT_ (fun K hK => ?_)
         refine gq Try.func23 #[.int .i64 50] ?_
         with_reducible refine (numnahref07_Whole.calls 50 t343 t344 _ A29.out).mono ?_
         rintro e w65 ⟨rfl, hb⟩
         refine ⟨_, rfl, ?_⟩
         replace HO312 := rB HO312 hb
         replace HO316 := rB HO316 hb
         replace HO326 := rB HO326 hb
         replace HO335 := nB HO335 hb
         replace HO340 := rB HO340 hb
         replace HO342 := rB HO342 hb
         replace BK322 := kB BK322 hb
         replace BK323 := kB BK323 hb
         replace HB := bB HB hb
         (try clear hb)
         (try clear hb2)
         (try clear hk)
         (try clear hi)
         refine hK.out _ _ ⟨cz BK322 0, cz BK322 1, cz BK323 0, cz BK323 1⟩ (fun hHeld => ?_)
         clear hK K
         refine nq 34 ?_
         refine oq 5 35 63 HT_ (fun K hK => ?_)
         refine gq Try.func23 #[.int .i64 100] ?_
         with_reducible refine (numnahref07_Whole.calls 100 t345 t346 _ A30.out).mono ?_
         rintro e w66 ⟨rfl, hb⟩
         refine ⟨_, rfl, ?_⟩
         replace HO312 := rB HO312 hb
         replace HO316 := rB HO316 hb
         replace HO326 := rB HO326 hb
         replace HO335 := nB HO335 hb
         replace HO340 := rB HO340 hb
         replace HO342 := rB HO342 hb
         replace BK322 := kB BK322 hb
         replace BK323 := kB BK323 hb
         replace HB := bB HB hb
         (try clear hb)
         (try clear hb2)
         (try clear hk)
         (try clear hi)
         refine hK.out _ _ ⟨cz BK322 0, cz BK322 1, cz BK323 0, cz BK323 1⟩ (fun hHeld => ?_)
         clear hK K
         refine nq 35 ?_
         refine oq 6 36 127 HT_ (fun K hK => ?_)
         refine gq Try.func23 #[.int .i64 150] ?_
         with_reducible refine (numnahref07_Whole.calls 150 t347 t348 _ A31.out).mono ?_
         rintro e w67 ⟨rfl, hb⟩
         refine ⟨_, rfl, ?_⟩
         replace HO312 := rB HO312 hb
         replace HO316 := rB HO316 hb
         replace HO326 := rB HO326 hb
         replace HO335 := nB HO335 hb
         replace HO340 := rB HO340 hb
         replace HO342 := rB HO342 hb
         replace BK322 := kB BK322 hb
         replace BK323 := kB BK323 hb
         replace HB := bB HB hb
         (try clear hb)
         (try clear hb2)
         (try clear hk)
         (try clear hi)
         refine hK.out _ _ ⟨cz BK322 0, cz BK322 1, cz BK323 0, cz BK323 1⟩ (fun hHeld => ?_)
         clear hK K
         refine nq 36 ?_
         refine oq 7 37 255 HT_ (fun K hK => ?_)
         refine Kd.R_lit_step k23 _ 23 ?hg (N := 37) ?hd (xs := ([(⟨t343, t344⟩ : S23), (⟨t345, t346⟩ : S23), (⟨t347, t348⟩ : S23)] : List (S23))) (inner := [.int .i64 t343, .int .i64 t344, .int .i64 t345, .int .i64 t346, .int .i64 t347, .int .i64 t348]) (ok := fun _ => True) (okp := fun _ => True) ?hr ?hp (fun _ hk => hk) trivial (Below.refl _ _) (Nat.le_refl _) (by simp) ?_; (case hd => rfl); (case hg => rfl); (case hr => first | (go_simp; done) | (go_simp; rfl)); (case hp => exact (Reps.c2 (show Kd.M k23 _ _ _ (⟨t343, t344⟩ : S23) [.int .i64 t343, .int .i64 t344] from (k23_mkM _ _ _ (⟨t343, t344⟩ : S23) )) (Reps.c2 (show Kd.M k23 _ _ _ (⟨t345, t346⟩ : S23) [.int .i64 t345, .int .i64 t346] from (k23_mkM _ _ _ (⟨t345, t346⟩ : S23) )) (Reps.c2 (show Kd.M k23 _ _ _ (⟨t347, t348⟩ : S23) [.int .i64 t347, .int .i64 t348] from (k23_mkM _ _ _ (⟨t347, t348⟩ : S23) )) (Reps.none _ _)))))
         intro v350 w68 ho69 hb hg_ hnew_
         clear hg_ hnew_
         (first | rw [← Ny349.out] at ho69 | (simp only [Int.reduceToNat] at ho69; rw [← Ny349.out] at ho69))
         have HO351 := A_ (Kd.R_lower (Kd.R_newB (Kd.R_newB (Kd.R_new' (Kd.R_new' ho69 (Kd.R_lt (rs HO316))) (Kd.R_lt (rs HO340))) (g := gb322) (o := .cells #[.int .i64 t317, .int .i64 t318] 23 (0, 0)) BK322.out) (g := gb323) (o := .cells #[.int .i64 t319, .int .i64 t320] 23 (0, 0)) BK323.out) (below_size HB.out))
         replace HO312 := rB HO312 hb
         replace HO316 := A_ (Kd.R_elder' (rs HO316) (Kd.R_base ho69) hb)
         replace HO326 := rB HO326 hb
         replace HO335 := A_ (Kd.N_elder' (ns HO335) (Kd.R_base ho69) hb)
         replace HO340 := A_ (Kd.R_elder' (rs HO340) (Kd.R_base ho69) hb)
         replace HO342 := rB HO342 hb
         replace BK322 := kB BK322 hb
         replace BK323 := kB BK323 hb
         replace HB := bB HB hb
         clear hb ho69
         obtain ⟨Ao70, co70, eo70⟩ := Kd.R_slice HO316.out
         (first | subst eo70 | (injection eo70 with f1_ f2_ f3_; have f4_ := f1_.symm; have f5_ := f3_.symm; clear f1_ f2_ f3_; subst f4_; subst f5_))
         obtain ⟨Ao71, co71, eo71⟩ := Kd.R_slice HO351.out
         (first | subst eo71 | (injection eo71 with f1_ f2_ f3_; have f4_ := f1_.symm; have f5_ := f3_.symm; clear f1_ f2_ f3_; subst f4_; subst f5_))
         refine hK.out _ _ ⟨cz BK322 0, cz BK322 1, cz BK323 0, cz BK323 1⟩ (fun hHeld => ?_)
         clear hK K
         refine nq 37 ?_
         refine oq 8 38 511 HT_ (fun K hK => ?_)
         refine gq Try.func33 #[.slice Ao70 t313.length co70, .slice Ao71 y349.length co71] ?_
         with_reducible refine (numnahref07_Same.calls k _ _ t313 _ _ y349 true _ ?side1 ?side2 ?side3 ?side4 A32.out).mono ?_
         (case side1 => repeat (first | exact (Kd.R_reads' HO316.out).2.2 | (with_reducible refine Kd.C_alloc ?_ _) | (with_reducible refine Kd.C_drewN ?_ _) | (with_reducible refine Kd.C_drew ?_)))
         (case side2 => exact (Kd.R_reads' HO316.out).2.1)
         (case side3 => repeat (first | exact (Kd.R_reads' HO351.out).2.2 | (with_reducible refine Kd.C_alloc ?_ _) | (with_reducible refine Kd.C_drewN ?_ _) | (with_reducible refine Kd.C_drew ?_)))
         (case side4 => exact (Kd.R_reads' HO351.out).2.1)
         rintro e w' ⟨rfl, ⟨nd, rfl⟩⟩
         refine ⟨_, rfl, ?_⟩
         refine hK.out _ _ ⟨cz BK322 0, cz BK322 1, cz BK323 0, cz BK323 1⟩ (fun hHeld => ?_)
         clear hK K
         refine nq 38 ?_
         refine pq 9 39 1023 HT_ ?_
         refine pq 10 40 2047 HT_ ?_
         refine pq 11 41 4095 HT_ ?_
         refine pq 12 42 8191 HT_ ?_
         refine pq 13 43 16383 HT_ ?_
         refine pq 14 44 32767 HT_ ?_
         refine pq 15 45 65535 HT_ ?_
         refine tq 16 46 131071 HT_ HW_ hHeld ?_
         refine oq 17 47 262143 HT_ (fun K hK => ?_)
         refine gq Try.func23 #[.int .i64 25] ?_
         with_reducible refine (numnahref07_Whole.calls 25 t353 t354 _ A35.out).mono ?_
         rintro e w72 ⟨rfl, hb⟩
         refine ⟨_, rfl, ?_⟩
         replace HO312 := rB HO312 hb
         replace HO316 := rB HO316 hb
         replace HO326 := rB HO326 hb
         replace HO335 := nB HO335 hb
         replace HO340 := rB HO340 hb
         replace HO342 := rB HO342 hb
         replace HO351 := rB HO351 hb
         replace BK322 := kB BK322 hb
         replace BK323 := kB BK323 hb
         replace HB := bB HB hb
         (try clear hb)
         (try clear hb2)
         (try clear hk)
         (try clear hi)
         refine hK.out _ _ ⟨cz BK322 0, cz BK322 1, cz BK323 0, cz BK323 1⟩ (fun hHeld => ?_)
         clear hK K
         refine nq 47 ?_
         refine pq 18 48 524287 HT_ ?_
         refine pq 19 49 1048575 HT_ ?_
         refine pq 20 50 2097151 HT_ ?_
         refine tq 21 51 4194303 HT_ HW_ hHeld ?_
         refine oq 22 52 8388607 HT_ (fun K hK => ?_)
         refine gq Try.func23 #[.int .i64 75] ?_
         with_reducible refine (numnahref07_Whole.calls 75 t355 t356 _ A46.out).mono ?_
         rintro e w73 ⟨rfl, hb⟩
         refine ⟨_, rfl, ?_⟩
         replace HO312 := rB HO312 hb
         replace HO316 := rB HO316 hb
         replace HO326 := rB HO326 hb
         replace HO335 := nB HO335 hb
         replace HO340 := rB HO340 hb
         replace HO342 := rB HO342 hb
         replace HO351 := rB HO351 hb
         replace BK322 := kB BK322 hb
         replace BK323 := kB BK323 hb
         replace HB := bB HB hb
         (try clear hb)
         (try clear hb2)
         (try clear hk)
         (try clear hi)
         refine hK.out _ _ ⟨cz BK322 0, cz BK322 1, cz BK323 0, cz BK323 1⟩ (fun hHeld => ?_)
         clear hK K
         refine nq 52 ?_
         refine pq 23 53 16777215 HT_ ?_
         refine pq 24 54 33554431 HT_ ?_
         refine pq 25 55 67108863 HT_ ?_
         refine pq 26 56 134217727 HT_ ?_
         refine pq 27 57 268435455 HT_ ?_
         refine pq 28 58 536870911 HT_ ?_
         refine pq 29 59 1073741823 HT_ ?_
         refine pq 30 60 2147483647 HT_ ?_
         refine oq 31 61 4294967295 HT_ (fun K hK => ?_)
         refine gq Try.func23 #[.int .i64 4] ?_
         with_reducible refine (numnahref07_Whole.calls 4 t357 t358 _ A59.out).mono ?_
         rintro e w74 ⟨rfl, hb⟩
         refine ⟨_, rfl, ?_⟩
         replace HO312 := rB HO312 hb
         replace HO316 := rB HO316 hb
         replace HO326 := rB HO326 hb
         replace HO335 := nB HO335 hb
         replace HO340 := rB HO340 hb
         replace HO342 := rB HO342 hb
         replace HO351 := rB HO351 hb
         replace BK322 := kB BK322 hb
         replace BK323 := kB BK323 hb
         replace HB := bB HB hb
         (try clear hb)
         (try clear hb2)
         (try clear hk)
         (try clear hi)
         refine hK.out _ _ ⟨cz BK322 0, cz BK322 1, cz BK323 0, cz BK323 1⟩ (fun hHeld => ?_)
         clear hK K
         refine nq 61 ?_
         refine oq 32 62 8589934591 HT_ (fun K hK => ?_)
         refine gq Try.func23 #[.int .i64 6] ?_
         with_reducible refine (numnahref07_Whole.calls 6 t359 t360 _ A60.out).mono ?_
         rintro e w75 ⟨rfl, hb⟩
         refine ⟨_, rfl, ?_⟩
         replace HO312 := rB HO312 hb
         replace HO316 := rB HO316 hb
         replace HO326 := rB HO326 hb
         replace HO335 := nB HO335 hb
         replace HO340 := rB HO340 hb
         replace HO342 := rB HO342 hb
         replace HO351 := rB HO351 hb
         replace BK322 := kB BK322 hb
         replace BK323 := kB BK323 hb
         replace HB := bB HB hb
         (try clear hb)
         (try clear hb2)
         (try clear hk)
         (try clear hi)
         refine hK.out _ _ ⟨cz BK322 0, cz BK322 1, cz BK323 0, cz BK323 1⟩ (fun hHeld => ?_)
         clear hK K
         refine nq 62 ?_
         refine oq 33 63 17179869183 HT_ (fun K hK => ?_)
         refine Kd.R_lit_step k23 _ 23 ?hg (N := 63) ?hd (xs := ([(⟨t357, t358⟩ : S23), (⟨t359, t360⟩ : S23)] : List (S23))) (inner := [.int .i64 t357, .int .i64 t358, .int .i64 t359, .int .i64 t360]) (ok := fun _ => True) (okp := fun _ => True) ?hr ?hp (fun _ hk => hk) trivial (Below.refl _ _) (Nat.le_refl _) (by simp) ?_; (case hd => rfl); (case hg => rfl); (case hr => first | (go_simp; done) | (go_simp; rfl)); (case hp => exact (Reps.c2 (show Kd.M k23 _ _ _ (⟨t357, t358⟩ : S23) [.int .i64 t357, .int .i64 t358] from (k23_mkM _ _ _ (⟨t357, t358⟩ : S23) )) (Reps.c2 (show Kd.M k23 _ _ _ (⟨t359, t360⟩ : S23) [.int .i64 t359, .int .i64 t360] from (k23_mkM _ _ _ (⟨t359, t360⟩ : S23) )) (Reps.none _ _))))
         intro v362 w76 ho77 hb hg_ hnew_
         clear hg_ hnew_
         (first | rw [← Ny361.out] at ho77 | (simp only [Int.reduceToNat] at ho77; rw [← Ny361.out] at ho77))
         have HO363 := A_ (Kd.R_lower (Kd.R_newB (Kd.R_newB (Kd.R_new' (Kd.R_new' (Kd.R_new' ho77 (Kd.R_lt (rs HO316))) (Kd.R_lt (rs HO340))) (Kd.R_lt (rs HO351))) (g := gb322) (o := .cells #[.int .i64 t317, .int .i64 t318] 23 (0, 0)) BK322.out) (g := gb323) (o := .cells #[.int .i64 t319, .int .i64 t320] 23 (0, 0)) BK323.out) (below_size HB.out))
         replace HO312 := rB HO312 hb
         replace HO316 := A_ (Kd.R_elder' (rs HO316) (Kd.R_base ho77) hb)
         replace HO326 := rB HO326 hb
         replace HO335 := A_ (Kd.N_elder' (ns HO335) (Kd.R_base ho77) hb)
         replace HO340 := A_ (Kd.R_elder' (rs HO340) (Kd.R_base ho77) hb)
         replace HO342 := rB HO342 hb
         replace HO351 := A_ (Kd.R_elder' (rs HO351) (Kd.R_base ho77) hb)
         replace BK322 := kB BK322 hb
         replace BK323 := kB BK323 hb
         replace HB := bB HB hb
         clear hb ho77
         obtain ⟨Ao78, co78, eo78⟩ := Kd.R_slice HO340.out
         (first | subst eo78 | (injection eo78 with f1_ f2_ f3_; have f4_ := f1_.symm; have f5_ := f3_.symm; clear f1_ f2_ f3_; subst f4_; subst f5_))
         obtain ⟨Ao79, co79, eo79⟩ := Kd.R_slice HO363.out
         (first | subst eo79 | (injection eo79 with f1_ f2_ f3_; have f4_ := f1_.symm; have f5_ := f3_.symm; clear f1_ f2_ f3_; subst f4_; subst f5_))
         refine hK.out _ _ ⟨cz BK322 0, cz BK322 1, cz BK323 0, cz BK323 1⟩ (fun hHeld => ?_)
         clear hK K
         refine nq 63 ?_
         refine oq 34 64 34359738367 HT_ (fun K hK => ?_)
         refine gq Try.func33 #[.slice Ao78 t336.length co78, .slice Ao79 y361.length co79] ?_
         with_reducible refine (numnahref07_Same.calls k _ _ t336 _ _ y361 true _ ?side1 ?side2 ?side3 ?side4 A61.out).mono ?_
         (case side1 => repeat (first | exact (Kd.R_reads' HO340.out).2.2 | (with_reducible refine Kd.C_alloc ?_ _) | (with_reducible refine Kd.C_drewN ?_ _) | (with_reducible refine Kd.C_drew ?_)))
         (case side2 => exact (Kd.R_reads' HO340.out).2.1)
         (case side3 => repeat (first | exact (Kd.R_reads' HO363.out).2.2 | (with_reducible refine Kd.C_alloc ?_ _) | (with_reducible refine Kd.C_drewN ?_ _) | (with_reducible refine Kd.C_drew ?_)))
         (case side4 => exact (Kd.R_reads' HO363.out).2.1)
         rintro e w' ⟨rfl, ⟨nd, rfl⟩⟩
         refine ⟨_, rfl, ?_⟩
         refine hK.out _ _ ⟨cz BK322 0, cz BK322 1, cz BK323 0, cz BK323 1⟩ (fun hHeld => ?_)
         clear hK K
         refine nq 64 ?_
         refine pq 35 65 68719476735 HT_ ?_
         refine pq 36 66 137438953471 HT_ ?_
         refine pq 37 67 274877906943 HT_ ?_
         refine pq 38 68 549755813887 HT_ ?_
         refine oq 39 69 1099511627775 HT_ (fun K hK => ?_)
         refine Kd.R_lit_step (Kd.int .i64) _ 3 ?hg (N := 69) ?hd (xs := ([1, 0] : List Int)) (inner := [.int .i64 1, .int .i64 0]) (ok := fun _ => True) (okp := fun _ => True) ?hr ?hp (fun _ hk => hk) trivial (Below.refl _ _) (Nat.le_refl _) (by simp) ?_; (case hd => rfl); (case hg => rfl); (case hr => first | (go_simp; done) | (go_simp; rfl)); (case hp => exact (Reps.one (show Kd.M (Kd.int .i64) _ _ _ 1 [.int .i64 1] from rfl) (Reps.one (show Kd.M (Kd.int .i64) _ _ _ 0 [.int .i64 0] from rfl) (Reps.none _ _))))
         intro v366 w80 ho81 hb hg_ hnew_
         clear hg_ hnew_
         (first | rw [← Ny365.out] at ho81 | (simp only [Int.reduceToNat] at ho81; rw [← Ny365.out] at ho81))
         have HO367 := A_ (Kd.R_lower (Kd.R_new' (Kd.R_new' (Kd.R_new' ho81 (Kd.R_lt (rs HO312))) (Kd.R_lt (rs HO326))) (Kd.R_lt (rs HO342))) (below_size (bl HB)))
         replace HO312 := A_ (Kd.R_elder' (rs HO312) (Kd.R_base ho81) hb)
         replace HO316 := rB HO316 hb
         replace HO326 := A_ (Kd.R_elder' (rs HO326) (Kd.R_base ho81) hb)
         replace HO335 := A_ (Kd.N_elder' (ns HO335) (Kd.R_base ho81) hb)
         replace HO340 := rB HO340 hb
         replace HO342 := A_ (Kd.R_elder' (rs HO342) (Kd.R_base ho81) hb)
         replace HO351 := rB HO351 hb
         replace HO363 := rB HO363 hb
         replace BK322 := kB BK322 hb
         replace BK323 := kB BK323 hb
         replace HB := bB HB hb
         clear hb ho81
         obtain ⟨Ao82, co82, eo82⟩ := Kd.R_slice HO342.out
         (first | subst eo82 | (injection eo82 with f1_ f2_ f3_; have f4_ := f1_.symm; have f5_ := f3_.symm; clear f1_ f2_ f3_; subst f4_; subst f5_))
         obtain ⟨Ao83, co83, eo83⟩ := Kd.R_slice HO367.out
         (first | subst eo83 | (injection eo83 with f1_ f2_ f3_; have f4_ := f1_.symm; have f5_ := f3_.symm; clear f1_ f2_ f3_; subst f4_; subst f5_))
         refine hK.out _ _ ⟨cz BK322 0, cz BK322 1, cz BK323 0, cz BK323 1⟩ (fun hHeld => ?_)
         clear hK K
         refine nq 69 ?_
         refine oq 40 70 2199023255551 HT_ (fun K hK => ?_)
         refine gq Try.func46 #[.slice Ao82 t337.length co82, .slice Ao83 y365.length co83] ?_
         with_reducible refine (numnahlaw07_ints.calls k _ _ t337 _ _ y365 t368 _ ?side1 ?side2 ?side3 ?side4 A63.out).mono ?_
         (case side1 => repeat (first | exact (Kd.R_reads' HO342.out).2.2 | (with_reducible refine Kd.C_alloc ?_ _) | (with_reducible refine Kd.C_drewN ?_ _) | (with_reducible refine Kd.C_drew ?_)))
         (case side2 => exact (Kd.R_reads' HO342.out).2.1)
         (case side3 => repeat (first | exact (Kd.R_reads' HO367.out).2.2 | (with_reducible refine Kd.C_alloc ?_ _) | (with_reducible refine Kd.C_drewN ?_ _) | (with_reducible refine Kd.C_drew ?_)))
         (case side4 => exact (Kd.R_reads' HO367.out).2.1)
         rintro e w' ⟨rfl, ⟨nd, rfl⟩⟩
         refine ⟨_, rfl, ?_⟩
         refine hK.out _ _ ⟨cz BK322 0, cz BK322 1, cz BK323 0, cz BK323 1⟩ (fun hHeld => ?_)
         clear hK K
         refine nq 70 ?_
         refine pq 41 71 4398046511103 HT_ ?_
         refine pq 42 72 8796093022207 HT_ ?_
         refine done_ (done_of HT_.out (by kernel_rfl)) ?_
         try go_wp2
         go_meet
         case rel => exact ⟨_, (!t368), rfl, H', ⟨by first | omega | exact Nat.le_refl _⟩, ⟨by (with_reducible repeat (first | refine blk_drewN ?_ _ | refine blk_drew ?_ | refine blk_alloc ?_ _)); exact BK322.out⟩, ⟨by (with_reducible repeat (first | refine blk_drewN ?_ _ | refine blk_drew ?_ | refine blk_alloc ?_ _)); exact BK323.out⟩, ⟨by repeat (first | (with_reducible first | exact HB.out | apply below_alloc | apply pw_below_drewN | apply below_drew1 | refine below_set ?_ GE322.out | refine below_set ?_ GE323.out) | exact HB.out)⟩⟩
        ·replace c62 := Bool.eq_false_iff.mpr c62
         subst c62
         have H1 : (numnahlaw07_awake.j0 k true) = some r := by rw [if_neg (show ¬ (false = true) by decide)] at H; exact H
         exact absurd (H1.trans (congrArg some HRT.out)) (j0_no k)
       ·rw [if_neg c58] at H
        have c58b0 : (t338 == 0) = false := beq_eq_false_iff_ne.mpr c58
        have c58b1 : (t338 != 0) = true := bne_iff_ne.mpr c58
        have H' := A_ H
        clear H
        try go_wp2
        replace HO312 := A_ (Kd.R_drew HO312.out)
        replace HO316 := A_ (Kd.R_drew HO316.out)
        replace HO326 := A_ (Kd.R_drew HO326.out)
        replace HO335 := A_ (Kd.N_drew HO335.out)
        replace HO340 := A_ (Kd.R_drew HO340.out)
        replace HO342 := A_ (Kd.R_drew HO342.out)
        replace BK322 := A_ (blk_drew BK322.out)
        replace BK323 := A_ (blk_drew BK323.out)
        replace HB := A_ (below_drew1 HB.out)
        refine start_ (n := 43) (S := fun w' => w'.cell? ⟨gb322, 0, none⟩ = some (.int .i64 t317) ∧ w'.cell? ⟨gb322, 1, none⟩ = some (.int .i64 t318) ∧ w'.cell? ⟨gb323, 0, none⟩ = some (.int .i64 t319) ∧ w'.cell? ⟨gb323, 1, none⟩ = some (.int .i64 t320)) (ds := []) (ba 43 0) (by kernel_rfl) rfl rfl ⟨cz BK322 0, cz BK322 1, cz BK323 0, cz BK323 1⟩ (fun hHeld => ?_); refine with_tabW numnahlaw07_awake.tab4 numnahlaw07_awake.bits4 (fun HT_ HW_ => ?_)
        generalize w27.drew = w100 at HO312 HO316 HO326 HO335 HO340 HO342 BK322 BK323 HB hHeld ⊢
        refine pq 0 30 1 HT_ ?_
        refine pq 1 31 3 HT_ ?_
        refine pq 2 32 7 HT_ ?_
        refine pq 3 33 15 HT_ ?_
        refine oq 4 34 31 HT_ (fun K hK => ?_)
        refine gq Try.func23 #[.int .i64 50] ?_
        with_reducible refine (numnahref07_Whole.calls 50 t343 t344 _ A29.out).mono ?_
        rintro e w101 ⟨rfl, hb⟩
        refine ⟨_, rfl, ?_⟩
        replace HO312 := rB HO312 hb
        replace HO316 := rB HO316 hb
        replace HO326 := rB HO326 hb
        replace HO335 := nB HO335 hb
        replace HO340 := rB HO340 hb
        replace HO342 := rB HO342 hb
        replace BK322 := kB BK322 hb
        replace BK323 := kB BK323 hb
        replace HB := bB HB hb
        (try clear hb)
        (try clear hb2)
        (try clear hk)
        (try clear hi)
        refine hK.out _ _ ⟨cz BK322 0, cz BK322 1, cz BK323 0, cz BK323 1⟩ (fun hHeld => ?_)
        clear hK K
        refine nq 34 ?_
        refine oq 5 35 63 HT_ (fun K hK => ?_)
        refine gq Try.func23 #[.int .i64 100] ?_
        with_reducible refine (numnahref07_Whole.calls 100 t345 t346 _ A30.out).mono ?_
        rintro e w102 ⟨rfl, hb⟩
        refine ⟨_, rfl, ?_⟩
        replace HO312 := rB HO312 hb
        replace HO316 := rB HO316 hb
        replace HO326 := rB HO326 hb
        replace HO335 := nB HO335 hb
        replace HO340 := rB HO340 hb
        replace HO342 := rB HO342 hb
        replace BK322 := kB BK322 hb
        replace BK323 := kB BK323 hb
        replace HB := bB HB hb
        (try clear hb)
        (try clear hb2)
        (try clear hk)
        (try clear hi)
        refine hK.out _ _ ⟨cz BK322 0, cz BK322 1, cz BK323 0, cz BK323 1⟩ (fun hHeld => ?_)
        clear hK K
        refine nq 35 ?_
        refine oq 6 36 127 HT_ (fun K hK => ?_)
        refine gq Try.func23 #[.int .i64 150] ?_
        with_reducible refine (numnahref07_Whole.calls 150 t347 t348 _ A31.out).mono ?_
        rintro e w103 ⟨rfl, hb⟩
        refine ⟨_, rfl, ?_⟩
        replace HO312 := rB HO312 hb
        replace HO316 := rB HO316 hb
        replace HO326 := rB HO326 hb
        replace HO335 := nB HO335 hb
        replace HO340 := rB HO340 hb
        replace HO342 := rB HO342 hb
        replace BK322 := kB BK322 hb
        replace BK323 := kB BK323 hb
        replace HB := bB HB hb
        (try clear hb)
        (try clear hb2)
        (try clear hk)
        (try clear hi)
        refine hK.out _ _ ⟨cz BK322 0, cz BK322 1, cz BK323 0, cz BK323 1⟩ (fun hHeld => ?_)
        clear hK K
        refine nq 36 ?_
        refine oq 7 37 255 HT_ (fun K hK => ?_)
        refine Kd.R_lit_step k23 _ 23 ?hg (N := 37) ?hd (xs := ([(⟨t343, t344⟩ : S23), (⟨t345, t346⟩ : S23), (⟨t347, t348⟩ : S23)] : List (S23))) (inner := [.int .i64 t343, .int .i64 t344, .int .i64 t345, .int .i64 t346, .int .i64 t347, .int .i64 t348]) (ok := fun _ => True) (okp := fun _ => True) ?hr ?hp (fun _ hk => hk) trivial (Below.refl _ _) (Nat.le_refl _) (by simp) ?_; (case hd => rfl); (case hg => rfl); (case hr => first | (go_simp; done) | (go_simp; rfl)); (case hp => exact (Reps.c2 (show Kd.M k23 _ _ _ (⟨t343, t344⟩ : S23) [.int .i64 t343, .int .i64 t344] from (k23_mkM _ _ _ (⟨t343, t344⟩ : S23) )) (Reps.c2 (show Kd.M k23 _ _ _ (⟨t345, t346⟩ : S23) [.int .i64 t345, .int .i64 t346] from (k23_mkM _ _ _ (⟨t345, t346⟩ : S23) )) (Reps.c2 (show Kd.M k23 _ _ _ (⟨t347, t348⟩ : S23) [.int .i64 t347, .int .i64 t348] from (k23_mkM _ _ _ (⟨t347, t348⟩ : S23) )) (Reps.none _ _)))))
        intro v350 w104 ho105 hb hg_ hnew_
        clear hg_ hnew_
        (first | rw [← Ny349.out] at ho105 | (simp only [Int.reduceToNat] at ho105; rw [← Ny349.out] at ho105))
        have HO351 := A_ (Kd.R_lower (Kd.R_newB (Kd.R_newB (Kd.R_new' (Kd.R_new' ho105 (Kd.R_lt (rs HO316))) (Kd.R_lt (rs HO340))) (g := gb322) (o := .cells #[.int .i64 t317, .int .i64 t318] 23 (0, 0)) BK322.out) (g := gb323) (o := .cells #[.int .i64 t319, .int .i64 t320] 23 (0, 0)) BK323.out) (below_size HB.out))
        replace HO312 := rB HO312 hb
        replace HO316 := A_ (Kd.R_elder' (rs HO316) (Kd.R_base ho105) hb)
        replace HO326 := rB HO326 hb
        replace HO335 := A_ (Kd.N_elder' (ns HO335) (Kd.R_base ho105) hb)
        replace HO340 := A_ (Kd.R_elder' (rs HO340) (Kd.R_base ho105) hb)
        replace HO342 := rB HO342 hb
        replace BK322 := kB BK322 hb
        replace BK323 := kB BK323 hb
        replace HB := bB HB hb
        clear hb ho105
        obtain ⟨Ao106, co106, eo106⟩ := Kd.R_slice HO316.out
        (first | subst eo106 | (injection eo106 with f1_ f2_ f3_; have f4_ := f1_.symm; have f5_ := f3_.symm; clear f1_ f2_ f3_; subst f4_; subst f5_))
        obtain ⟨Ao107, co107, eo107⟩ := Kd.R_slice HO351.out
        (first | subst eo107 | (injection eo107 with f1_ f2_ f3_; have f4_ := f1_.symm; have f5_ := f3_.symm; clear f1_ f2_ f3_; subst f4_; subst f5_))
        refine hK.out _ _ ⟨cz BK322 0, cz BK322 1, cz BK323 0, cz BK323 1⟩ (fun hHeld => ?_)
        clear hK K
        refine nq 37 ?_
        refine oq 8 38 511 HT_ (fun K hK => ?_)
        refine gq Try.func33 #[.slice Ao106 t313.length co106, .slice Ao107 y349.length co107] ?_
        with_reducible refine (numnahref07_Same.calls k _ _ t313 _ _ y349 true _ ?side1 ?side2 ?side3 ?side4 A32.out).mono ?_
        (case side1 => repeat (first | exact (Kd.R_reads' HO316.out).2.2 | (with_reducible refine Kd.C_alloc ?_ _) | (with_reducible refine Kd.C_drewN ?_ _) | (with_reducible refine Kd.C_drew ?_)))
        (case side2 => exact (Kd.R_reads' HO316.out).2.1)
        (case side3 => repeat (first | exact (Kd.R_reads' HO351.out).2.2 | (with_reducible refine Kd.C_alloc ?_ _) | (with_reducible refine Kd.C_drewN ?_ _) | (with_reducible refine Kd.C_drew ?_)))
        (case side4 => exact (Kd.R_reads' HO351.out).2.1)
        rintro e w' ⟨rfl, ⟨nd, rfl⟩⟩
        refine ⟨_, rfl, ?_⟩
        refine hK.out _ _ ⟨cz BK322 0, cz BK322 1, cz BK323 0, cz BK323 1⟩ (fun hHeld => ?_)
        clear hK K
        refine nq 38 ?_
        refine pq 9 39 1023 HT_ ?_
        refine pq 10 40 2047 HT_ ?_
        refine pq 11 41 4095 HT_ ?_
        refine pq 12 42 8191 HT_ ?_
        refine pq 13 43 16383 HT_ ?_
        refine pq 14 44 32767 HT_ ?_
        refine pq 15 45 65535 HT_ ?_
        refine tq 16 46 131071 HT_ HW_ hHeld ?_
        refine oq 17 47 262143 HT_ (fun K hK => ?_)
        refine gq Try.func23 #[.int .i64 25] ?_
        with_reducible refine (numnahref07_Whole.calls 25 t353 t354 _ A35.out).mono ?_
        rintro e w108 ⟨rfl, hb⟩
        refine ⟨_, rfl, ?_⟩
        replace HO312 := rB HO312 hb
        replace HO316 := rB HO316 hb
        replace HO326 := rB HO326 hb
        replace HO335 := nB HO335 hb
        replace HO340 := rB HO340 hb
        replace HO342 := rB HO342 hb
        replace HO351 := rB HO351 hb
        replace BK322 := kB BK322 hb
        replace BK323 := kB BK323 hb
        replace HB := bB HB hb
        (try clear hb)
        (try clear hb2)
        (try clear hk)
        (try clear hi)
        refine hK.out _ _ ⟨cz BK322 0, cz BK322 1, cz BK323 0, cz BK323 1⟩ (fun hHeld => ?_)
        clear hK K
        refine nq 47 ?_
        refine pq 18 48 524287 HT_ ?_
        refine pq 19 49 1048575 HT_ ?_
        refine pq 20 50 2097151 HT_ ?_
        refine tq 21 51 4194303 HT_ HW_ hHeld ?_
        refine oq 22 52 8388607 HT_ (fun K hK => ?_)
        refine gq Try.func23 #[.int .i64 75] ?_
        with_reducible refine (numnahref07_Whole.calls 75 t355 t356 _ A46.out).mono ?_
        rintro e w109 ⟨rfl, hb⟩
        refine ⟨_, rfl, ?_⟩
        replace HO312 := rB HO312 hb
        replace HO316 := rB HO316 hb
        replace HO326 := rB HO326 hb
        replace HO335 := nB HO335 hb
        replace HO340 := rB HO340 hb
        replace HO342 := rB HO342 hb
        replace HO351 := rB HO351 hb
        replace BK322 := kB BK322 hb
        replace BK323 := kB BK323 hb
        replace HB := bB HB hb
        (try clear hb)
        (try clear hb2)
        (try clear hk)
        (try clear hi)
        refine hK.out _ _ ⟨cz BK322 0, cz BK322 1, cz BK323 0, cz BK323 1⟩ (fun hHeld => ?_)
        clear hK K
        refine nq 52 ?_
        refine pq 23 53 16777215 HT_ ?_
        refine pq 24 54 33554431 HT_ ?_
        refine pq 25 55 67108863 HT_ ?_
        refine pq 26 56 134217727 HT_ ?_
        refine pq 27 57 268435455 HT_ ?_
        refine pq 28 58 536870911 HT_ ?_
        refine pq 29 59 1073741823 HT_ ?_
        refine pu 30 60 2147483647 HT_ ?_
        refine pu 31 61 4294967295 HT_ ?_
        refine pu 32 62 8589934591 HT_ ?_
        refine pu 33 63 17179869183 HT_ ?_
        refine pu 34 64 34359738367 HT_ ?_
        refine pu 35 65 68719476735 HT_ ?_
        refine pq 36 66 137438953471 HT_ ?_
        refine pq 37 67 274877906943 HT_ ?_
        refine pu 38 68 549755813887 HT_ ?_
        refine pu 39 69 1099511627775 HT_ ?_
        refine pu 40 70 2199023255551 HT_ ?_
        refine pu 41 71 4398046511103 HT_ ?_
        refine pq 42 72 8796093022207 HT_ ?_
        refine done_ (done_of HT_.out (by kernel_rfl)) ?_
        try go_wp2
        go_meet
        case rel => exact ⟨_, (true), rfl, H', ⟨by first | omega | exact Nat.le_refl _⟩, ⟨by (with_reducible repeat (first | refine blk_drewN ?_ _ | refine blk_drew ?_ | refine blk_alloc ?_ _)); exact BK322.out⟩, ⟨by (with_reducible repeat (first | refine blk_drewN ?_ _ | refine blk_drew ?_ | refine blk_alloc ?_ _)); exact BK323.out⟩, ⟨by repeat (first | (with_reducible first | exact HB.out | apply below_alloc | apply pw_below_drewN | apply below_drew1 | refine below_set ?_ GE322.out | refine below_set ?_ GE323.out) | exact HB.out)⟩⟩
    ·rw [if_neg c34] at H
     have c34b0 : (t321 == 0) = false := beq_eq_false_iff_ne.mpr c34
     have c34b1 : (t321 != 0) = true := bne_iff_ne.mpr c34
     have H' := A_ H
     clear H
     try go_wp2
     replace HO312 := A_ (Kd.R_drew HO312.out)
     replace HO316 := A_ (Kd.R_drew HO316.out)
     replace HO326 := A_ (Kd.R_drew HO326.out)
     replace HO335 := A_ (Kd.N_drew HO335.out)
     replace HO340 := A_ (Kd.R_drew HO340.out)
     replace HO342 := A_ (Kd.R_drew HO342.out)
     replace BK322 := A_ (blk_drew BK322.out)
     replace BK323 := A_ (blk_drew BK323.out)
     replace HB := A_ (below_drew1 HB.out)
     refine start_ (n := 43) (S := fun w' => True) (ds := []) (ba 43 0) (by kernel_rfl) rfl rfl trivial (fun hHeld => ?_); refine with_tabW numnahlaw07_awake.tab4 numnahlaw07_awake.bits4 (fun HT_ HW_ => ?_)
     generalize w27.drew = w110 at HO312 HO316 HO326 HO335 HO340 HO342 BK322 BK323 HB hHeld ⊢
     refine pq 0 30 1 HT_ ?_
     refine pq 1 31 3 HT_ ?_
     refine pq 2 32 7 HT_ ?_
     refine pq 3 33 15 HT_ ?_
     refine oq 4 34 31 HT_ (fun K hK => ?_)
     refine gq Try.func23 #[.int .i64 50] ?_
     with_reducible refine (numnahref07_Whole.calls 50 t343 t344 _ A29.out).mono ?_
     rintro e w111 ⟨rfl, hb⟩
     refine ⟨_, rfl, ?_⟩
     replace HO312 := rB HO312 hb
     replace HO316 := rB HO316 hb
     replace HO326 := rB HO326 hb
     replace HO335 := nB HO335 hb
     replace HO340 := rB HO340 hb
     replace HO342 := rB HO342 hb
     replace BK322 := kB BK322 hb
     replace BK323 := kB BK323 hb
     replace HB := bB HB hb
     (try clear hb)
     (try clear hb2)
     (try clear hk)
     (try clear hi)
     refine hK.out _ _ trivial (fun hHeld => ?_)
     clear hK K
     refine nq 34 ?_
     refine oq 5 35 63 HT_ (fun K hK => ?_)
     refine gq Try.func23 #[.int .i64 100] ?_
     with_reducible refine (numnahref07_Whole.calls 100 t345 t346 _ A30.out).mono ?_
     rintro e w112 ⟨rfl, hb⟩
     refine ⟨_, rfl, ?_⟩
     replace HO312 := rB HO312 hb
     replace HO316 := rB HO316 hb
     replace HO326 := rB HO326 hb
     replace HO335 := nB HO335 hb
     replace HO340 := rB HO340 hb
     replace HO342 := rB HO342 hb
     replace BK322 := kB BK322 hb
     replace BK323 := kB BK323 hb
     replace HB := bB HB hb
     (try clear hb)
     (try clear hb2)
     (try clear hk)
     (try clear hi)
     refine hK.out _ _ trivial (fun hHeld => ?_)
     clear hK K
     refine nq 35 ?_
     refine oq 6 36 127 HT_ (fun K hK => ?_)
     refine gq Try.func23 #[.int .i64 150] ?_
     with_reducible refine (numnahref07_Whole.calls 150 t347 t348 _ A31.out).mono ?_
     rintro e w113 ⟨rfl, hb⟩
     refine ⟨_, rfl, ?_⟩
     replace HO312 := rB HO312 hb
     replace HO316 := rB HO316 hb
     replace HO326 := rB HO326 hb
     replace HO335 := nB HO335 hb
     replace HO340 := rB HO340 hb
     replace HO342 := rB HO342 hb
     replace BK322 := kB BK322 hb
     replace BK323 := kB BK323 hb
     replace HB := bB HB hb
     (try clear hb)
     (try clear hb2)
     (try clear hk)
     (try clear hi)
     refine hK.out _ _ trivial (fun hHeld => ?_)
     clear hK K
     refine nq 36 ?_
     refine oq 7 37 255 HT_ (fun K hK => ?_)
     refine Kd.R_lit_step k23 _ 23 ?hg (N := 37) ?hd (xs := ([(⟨t343, t344⟩ : S23), (⟨t345, t346⟩ : S23), (⟨t347, t348⟩ : S23)] : List (S23))) (inner := [.int .i64 t343, .int .i64 t344, .int .i64 t345, .int .i64 t346, .int .i64 t347, .int .i64 t348]) (ok := fun _ => True) (okp := fun _ => True) ?hr ?hp (fun _ hk => hk) trivial (Below.refl _ _) (Nat.le_refl _) (by simp) ?_; (case hd => rfl); (case hg => rfl); (case hr => first | (go_simp; done) | (go_simp; rfl)); (case hp => exact (Reps.c2 (show Kd.M k23 _ _ _ (⟨t343, t344⟩ : S23) [.int .i64 t343, .int .i64 t344] from (k23_mkM _ _ _ (⟨t343, t344⟩ : S23) )) (Reps.c2 (show Kd.M k23 _ _ _ (⟨t345, t346⟩ : S23) [.int .i64 t345, .int .i64 t346] from (k23_mkM _ _ _ (⟨t345, t346⟩ : S23) )) (Reps.c2 (show Kd.M k23 _ _ _ (⟨t347, t348⟩ : S23) [.int .i64 t347, .int .i64 t348] from (k23_mkM _ _ _ (⟨t347, t348⟩ : S23) )) (Reps.none _ _)))))
     intro v350 w114 ho115 hb hg_ hnew_
     clear hg_ hnew_
     (first | rw [← Ny349.out] at ho115 | (simp only [Int.reduceToNat] at ho115; rw [← Ny349.out] at ho115))
     have HO351 := A_ (Kd.R_lower (Kd.R_newB (Kd.R_newB (Kd.R_new' (Kd.R_new' ho115 (Kd.R_lt (rs HO316))) (Kd.R_lt (rs HO340))) (g := gb322) (o := .cells #[.int .i64 t317, .int .i64 t318] 23 (0, 0)) BK322.out) (g := gb323) (o := .cells #[.int .i64 t319, .int .i64 t320] 23 (0, 0)) BK323.out) (below_size HB.out))
     replace HO312 := rB HO312 hb
     replace HO316 := A_ (Kd.R_elder' (rs HO316) (Kd.R_base ho115) hb)
     replace HO326 := rB HO326 hb
     replace HO335 := A_ (Kd.N_elder' (ns HO335) (Kd.R_base ho115) hb)
     replace HO340 := A_ (Kd.R_elder' (rs HO340) (Kd.R_base ho115) hb)
     replace HO342 := rB HO342 hb
     replace BK322 := kB BK322 hb
     replace BK323 := kB BK323 hb
     replace HB := bB HB hb
     clear hb ho115
     obtain ⟨Ao116, co116, eo116⟩ := Kd.R_slice HO316.out
     (first | subst eo116 | (injection eo116 with f1_ f2_ f3_; have f4_ := f1_.symm; have f5_ := f3_.symm; clear f1_ f2_ f3_; subst f4_; subst f5_))
     obtain ⟨Ao117, co117, eo117⟩ := Kd.R_slice HO351.out
     (first | subst eo117 | (injection eo117 with f1_ f2_ f3_; have f4_ := f1_.symm; have f5_ := f3_.symm; clear f1_ f2_ f3_; subst f4_; subst f5_))
     refine hK.out _ _ trivial (fun hHeld => ?_)
     clear hK K
     refine nq 37 ?_
     refine oq 8 38 511 HT_ (fun K hK => ?_)
     refine gq Try.func33 #[.slice Ao116 t313.length co116, .slice Ao117 y349.length co117] ?_
     with_reducible refine (numnahref07_Same.calls k _ _ t313 _ _ y349 true _ ?side1 ?side2 ?side3 ?side4 A32.out).mono ?_
     (case side1 => repeat (first | exact (Kd.R_reads' HO316.out).2.2 | (with_reducible refine Kd.C_alloc ?_ _) | (with_reducible refine Kd.C_drewN ?_ _) | (with_reducible refine Kd.C_drew ?_)))
     (case side2 => exact (Kd.R_reads' HO316.out).2.1)
     (case side3 => repeat (first | exact (Kd.R_reads' HO351.out).2.2 | (with_reducible refine Kd.C_alloc ?_ _) | (with_reducible refine Kd.C_drewN ?_ _) | (with_reducible refine Kd.C_drew ?_)))
     (case side4 => exact (Kd.R_reads' HO351.out).2.1)
     rintro e w' ⟨rfl, ⟨nd, rfl⟩⟩
     refine ⟨_, rfl, ?_⟩
     refine hK.out _ _ trivial (fun hHeld => ?_)
     clear hK K
     refine nq 38 ?_
     refine pq 9 39 1023 HT_ ?_
     refine pq 10 40 2047 HT_ ?_
     refine pq 11 41 4095 HT_ ?_
     refine pq 12 42 8191 HT_ ?_
     refine pq 13 43 16383 HT_ ?_
     refine pq 14 44 32767 HT_ ?_
     refine pq 15 45 65535 HT_ ?_
     refine pu 16 46 131071 HT_ ?_
     refine pu 17 47 262143 HT_ ?_
     refine pu 18 48 524287 HT_ ?_
     refine pq 19 49 1048575 HT_ ?_
     refine pq 20 50 2097151 HT_ ?_
     refine pu 21 51 4194303 HT_ ?_
     refine pu 22 52 8388607 HT_ ?_
     refine pu 23 53 16777215 HT_ ?_
     refine pq 24 54 33554431 HT_ ?_
     refine pq 25 55 67108863 HT_ ?_
     refine pu 26 56 134217727 HT_ ?_
     refine pu 27 57 268435455 HT_ ?_
     refine pq 28 58 536870911 HT_ ?_
     refine pq 29 59 1073741823 HT_ ?_
     refine pu 30 60 2147483647 HT_ ?_
     refine pu 31 61 4294967295 HT_ ?_
     refine pu 32 62 8589934591 HT_ ?_
     refine pu 33 63 17179869183 HT_ ?_
     refine pu 34 64 34359738367 HT_ ?_
     refine pu 35 65 68719476735 HT_ ?_
     refine pq 36 66 137438953471 HT_ ?_
     refine pq 37 67 274877906943 HT_ ?_
     refine pu 38 68 549755813887 HT_ ?_
     refine pu 39 69 1099511627775 HT_ ?_
     refine pu 40 70 2199023255551 HT_ ?_
     refine pu 41 71 4398046511103 HT_ ?_
     refine pq 42 72 8796093022207 HT_ ?_
     refine done_ (done_of HT_.out (by kernel_rfl)) ?_
     try go_wp2
     go_meet
     case rel => exact ⟨_, (true), rfl, H', ⟨by first | omega | exact Nat.le_refl _⟩, ⟨by (with_reducible repeat (first | refine blk_drewN ?_ _ | refine blk_drew ?_ | refine blk_alloc ?_ _)); exact BK322.out⟩, ⟨by (with_reducible repeat (first | refine blk_drewN ?_ _ | refine blk_drew ?_ | refine blk_alloc ?_ _)); exact BK323.out⟩, ⟨by repeat (first | (with_reducible first | exact HB.out | apply below_alloc | apply pw_below_drewN | apply below_drew1 | refine below_set ?_ GE322.out | refine below_set ?_ GE323.out) | exact HB.out)⟩⟩
   ·replace c33 := Bool.eq_false_iff.mpr c33
    subst c33
    have H1 : (numnahlaw07_awake.j0 k true) = some r := by rw [if_neg (show ¬ (false = true) by decide)] at H; exact H
    exact absurd (H1.trans (congrArg some HRT.out)) (j0_no k)
  ·rw [if_neg c28] at H
   have c28b0 : (t314 == 0) = false := beq_eq_false_iff_ne.mpr c28
   have c28b1 : (t314 != 0) = true := bne_iff_ne.mpr c28
   (first | rw [c28b0] | (simp only [i64_w, i32_w]; rw [c28b0]) | skip)
   have H' := A_ H
   clear H
   try go_wp2
   replace HO312 := A_ (Kd.R_drew HO312.out)
   replace HO316 := A_ (Kd.R_drew HO316.out)
   replace HO326 := A_ (Kd.R_drew HO326.out)
   replace HO335 := A_ (Kd.N_drew HO335.out)
   replace HO340 := A_ (Kd.R_drew HO340.out)
   replace HO342 := A_ (Kd.R_drew HO342.out)
   replace BK322 := A_ (blk_drew BK322.out)
   replace BK323 := A_ (blk_drew BK323.out)
   replace HB := A_ (below_drew1 HB.out)
   refine start_ (n := 43) (S := fun w' => True) (ds := []) (ba 43 0) (by kernel_rfl) rfl rfl trivial (fun hHeld => ?_); refine with_tabW numnahlaw07_awake.tab4 numnahlaw07_awake.bits4 (fun HT_ HW_ => ?_)
   generalize w27.drew = w126 at HO312 HO316 HO326 HO335 HO340 HO342 BK322 BK323 HB hHeld ⊢
   refine pq 0 30 1 HT_ ?_
   refine pq 1 31 3 HT_ ?_
   refine pq 2 32 7 HT_ ?_
   refine pu 3 33 15 HT_ ?_
   refine pu 4 34 31 HT_ ?_
   refine pu 5 35 63 HT_ ?_
   refine pu 6 36 127 HT_ ?_
   refine pu 7 37 255 HT_ ?_
   refine pu 8 38 511 HT_ ?_
   refine pu 9 39 1023 HT_ ?_
   refine pq 10 40 2047 HT_ ?_
   refine pq 11 41 4095 HT_ ?_
   refine pu 12 42 8191 HT_ ?_
   refine pu 13 43 16383 HT_ ?_
   refine pq 14 44 32767 HT_ ?_
   refine pq 15 45 65535 HT_ ?_
   refine pu 16 46 131071 HT_ ?_
   refine pu 17 47 262143 HT_ ?_
   refine pu 18 48 524287 HT_ ?_
   refine pq 19 49 1048575 HT_ ?_
   refine pq 20 50 2097151 HT_ ?_
   refine pu 21 51 4194303 HT_ ?_
   refine pu 22 52 8388607 HT_ ?_
   refine pu 23 53 16777215 HT_ ?_
   refine pq 24 54 33554431 HT_ ?_
   refine pq 25 55 67108863 HT_ ?_
   refine pu 26 56 134217727 HT_ ?_
   refine pu 27 57 268435455 HT_ ?_
   refine pq 28 58 536870911 HT_ ?_
   refine pq 29 59 1073741823 HT_ ?_
   refine pu 30 60 2147483647 HT_ ?_
   refine pu 31 61 4294967295 HT_ ?_
   refine pu 32 62 8589934591 HT_ ?_
   refine pu 33 63 17179869183 HT_ ?_
   refine pu 34 64 34359738367 HT_ ?_
   refine pu 35 65 68719476735 HT_ ?_
   refine pq 36 66 137438953471 HT_ ?_
   refine pq 37 67 274877906943 HT_ ?_
   refine pu 38 68 549755813887 HT_ ?_
   refine pu 39 69 1099511627775 HT_ ?_
   refine pu 40 70 2199023255551 HT_ ?_
   refine pu 41 71 4398046511103 HT_ ?_
   refine pq 42 72 8796093022207 HT_ ?_
   refine done_ (done_of HT_.out (by kernel_rfl)) ?_
   try go_wp2
   go_meet
   case rel => exact ⟨_, (true), rfl, H', ⟨by first | omega | exact Nat.le_refl _⟩, ⟨by (with_reducible repeat (first | refine blk_drewN ?_ _ | refine blk_drew ?_ | refine blk_alloc ?_ _)); exact BK322.out⟩, ⟨by (with_reducible repeat (first | refine blk_drewN ?_ _ | refine blk_drew ?_ | refine blk_alloc ?_ _)); exact BK323.out⟩, ⟨by repeat (first | (with_reducible first | exact HB.out | apply below_alloc | apply pw_below_drewN | apply below_drew1 | refine below_set ?_ GE322.out | refine below_set ?_ GE323.out) | exact HB.out)⟩⟩
 case rest =>
  clear HC4
  try clear c2
  try clear p2
  try clear c3
  try clear c23
  try clear c28
  try clear c28b0
  try clear c28b1
  try clear c33
  obtain ⟨kq, x72_3, rfl, HA, HJ3, BK322, BK323, HB⟩ := hcut
  cases kq with
  | zero => exact absurd HA.out (by simp [numnahlaw07_awake.j0])
  | succ kj3 =>
   have H := HA.out
   clear HA
   simp only [numnahlaw07_awake.j0] at H
   by_cases c127 : x72_3 = true
   ·subst c127
    have H1 : (some false) = some r := by rw [if_pos rfl] at H; exact H
    clear H
    have H := H1
    clear H1
    exact absurd ((Option.some.inj H).trans HRT.out) (by decide)
   ·replace c127 := Bool.eq_false_iff.mpr c127
    subst c127
    have H1 : (some true) = some r := by rw [if_neg (show ¬ (false = true) by decide)] at H; exact H
    clear H
    have H := H1
    clear H1
    obtain rfl := Option.some.inj H
    go_wp2
    go_ret
    exact ⟨rfl, by repeat (first | (with_reducible first | exact HB.out | apply below_alloc | apply pw_below_drewN | apply below_drew1 | refine below_set ?_ GE322.out | refine below_set ?_ GE323.out) | exact HB.out)⟩
theorem awake_now : numnahlaw07_awake.f 60 = some true := by kernel_rfl
theorem numnahlaw07_awake.calls (k : Nat) (r : Bool) (w : World) (h : numnahlaw07_awake.f k = some r) : Calls Try.prog 22 #[] w fun e w' => e = .returned (.bool r) ∧ Below w.heap.size w w' := by
 obtain ⟨K, hK⟩ := Ev.of (fun k => numnahlaw07_awake.mono k) h
 obtain ⟨K2, hK2⟩ := Ev.of (fun k => numnahlaw07_awake.mono k) awake_now
 obtain rfl : r = true := Option.some.inj ((hK (K + K2) (by omega)).symm.trans (hK2 (K + K2) (by omega)))
 exact numnahlaw07_awake.callsT k _ w h rfl
end Go.Proofs.Ytjohcjfmlhihbaa.G

/- ### F112 -/
namespace Go.Proofs.Ytjohcjfmlhihbaa.G
open Go.RowKit Go.Proofs.YtjohcjfmlhihbaaW.PrintWords Go.Proofs.YtjohcjfmlhihbaaW.PrintLast Go.Proofs.YtjohcjfmlhihbaaW.PrintMore
attribute [local go_sem] cond_true cond_false fld23_0 fld23_1 fld45_0 fld45_1 fld109_0 fld109_1 fld94_0 fld94_1 max2_int min2_int max_two min_two max_three min_three max_four min_four   -- for this text's walks alone
set_option linter.unusedVariables false
set_option linter.unusedSimpArgs false
def shares_isValid.f (k : Nat) (a0_0 : Int) (a0_1 : Int) : Option (Bool) := if a0_1 ≥ 1 then ((shares_gcd.f k (mx a0_0 (wrap64 (-a0_0))) a0_1).bind fun t127 => (some (t127 == 1))) else (some false)
theorem shares_isValid.mono : ∀ a0 a1 k, LeO (shares_isValid.f k a0 a1) (shares_isValid.f (k + 1) a0 a1) := by
 intro a0 a1 k
 unfold shares_isValid.f
 repeat' first
   | (with_reducible exact shares_gcd.mono _ _ _)
   | (with_reducible exact LeO.refl _)
   | (with_reducible exact LeO.none _)
   | (with_reducible refine LeO.ite ?_ ?_)
   | (with_reducible refine LeO.bind ?_ (fun _ => ?_))
   | exact shares_gcd.mono _ _ _
   | exact LeO.none _
   | refine LeO.ite ?_ ?_
   | refine LeO.bind ?_ (fun _ => ?_)
set_option maxHeartbeats 8000000 in
set_option maxRecDepth 100000 in
theorem shares_isValid.calls (k : Nat) (a0_0 : Int) (a0_1 : Int) (r : Bool) (w : World) (h : shares_isValid.f k a0_0 a0_1 = some r) :
  Calls Try.prog 112 #[.agg #[.int .i64 a0_0, .int .i64 a0_1]] w fun e w' => e = .returned (.bool r) ∧ Below w.heap.size w w' := by
 have hu23 := Try.underlying23
 have HB := Aside0.mk (Below.refl w.heap.size w)
 have H : (if a0_1 ≥ 1 then ((shares_gcd.f k (mx a0_0 (wrap64 (-a0_0))) a0_1).bind fun t127 => (some (t127 == 1))) else (some false)) = some r := h
 clear h
 by_cases c2 : a0_1 ≥ 1
 ·rw [if_pos c2] at H
  have c2b0 : decide (1 ≤ a0_1) = true := decide_eq_true c2
  clear c2
  obtain ⟨ji3, hji3⟩ : ∃ j_ : Int, (mx a0_0 (wrap64 (-a0_0))) = j_ := ⟨_, rfl⟩
  replace H : ((shares_gcd.f k (ji3) a0_1).bind fun t127 => (some (t127 == 1))) = some r := by first | (rw [hji3] at H; exact H) | (simp only [hji3] at H ⊢; exact H)
  have hji3_ : (if a0_0 < (wrap64 (-a0_0)) then (wrap64 (-a0_0)) else a0_0) = ji3 := hji3
  replace H := Option.bind_eq_some_iff.mp H
  obtain ⟨t127, A40, H⟩ := H
  replace H : (some (t127 == 1)) = some r := H
  have A4 := Aside0.mk A40
  clear A40
  obtain rfl := Option.some.inj H
  go_enter Try.func112, Try.ntmps112
  go_wp2_with (first | ((with_reducible refine gate_dst (N := 1) rfl ?_); (try (refine gate_guard (by rfl) ?_; dsimp only)); refine box_event ?hg (N := 1) ?hd (cs := #[.int .i64 a0_0, .int .i64 a0_1]) (t := 23) ?hr ?_; (case hd => rfl); (case hg => rfl); (case hr => first | (go_simp; done) | (go_simp; rfl)); intro gb126 hg w5 hbox hb; have n0_ := Aside0.mk (below_step (by repeat (first | (with_reducible first | exact HB.out | apply below_alloc | apply pw_below_drewN | apply below_drew1) | exact HB.out)) hb); have n1_ := Aside0.mk (hbox); have n2_ := Aside0.mk ((by rw [hg]; exact (below_size (by repeat (first | (with_reducible first | exact HB.out | apply below_alloc | apply pw_below_drewN | apply below_drew1) | exact HB.out))) : w.heap.size ≤ gb126)); have n3_ := Aside0.mk ((by rw [hg]; exact (below_size (by repeat (first | (with_reducible first | exact HB.out | apply below_alloc | apply pw_below_drewN | apply below_drew1) | exact HB.out))) : w.heap.size ≤ gb126)); clear HB; have HB := n0_; have BK126 := n1_; have GW126 := n2_; have GE126 := n3_; clear n0_ n1_ n2_ n3_; clear hb hbox hg; have hcz6_0 : w5.cell? ⟨gb126, 0, none⟩ = some (.int .i64 a0_0) := (blk_cell BK126.out 0).trans rfl; have hcz6_1 : w5.cell? ⟨gb126, 1, none⟩ = some (.int .i64 a0_1) := (blk_cell BK126.out 1).trans rfl; have hfz6_0 := blk_frozen BK126.out 0; have hfz6_1 := blk_frozen BK126.out 1) | (go_at_call 116; (with_reducible refine (shares_gcd.calls k ji3 a0_1 t127 _ A4.out).mono ?_); rintro e w' ⟨rfl, ⟨nd, rfl⟩⟩))
  go_ret
  exact ⟨by first | rfl | (simp [errW_none, errW_some] <;> rfl) | (simp only [← hji3]; first | rfl | (simp [errW_none, errW_some] <;> rfl)) | (simp [*, errW_none, errW_some] <;> rfl), by repeat (first | (with_reducible first | exact HB.out | apply below_alloc | apply pw_below_drewN | apply below_drew1 | refine below_set ?_ GE126.out) | exact HB.out)⟩
 ·rw [if_neg c2] at H
  have c2b0 : decide (1 ≤ a0_1) = false := decide_eq_false c2
  clear c2
  obtain rfl := Option.some.inj H
  go_enter Try.func112, Try.ntmps112
  go_wp2_with (first | ((with_reducible refine gate_dst (N := 1) rfl ?_); (try (refine gate_guard (by rfl) ?_; dsimp only)); refine box_event ?hg (N := 1) ?hd (cs := #[.int .i64 a0_0, .int .i64 a0_1]) (t := 23) ?hr ?_; (case hd => rfl); (case hg => rfl); (case hr => first | (go_simp; done) | (go_simp; rfl)); intro gb126 hg w7 hbox hb; have n0_ := Aside0.mk (below_step (by repeat (first | (with_reducible first | exact HB.out | apply below_alloc | apply pw_below_drewN | apply below_drew1) | exact HB.out)) hb); have n1_ := Aside0.mk (hbox); have n2_ := Aside0.mk ((by rw [hg]; exact (below_size (by repeat (first | (with_reducible first | exact HB.out | apply below_alloc | apply pw_below_drewN | apply below_drew1) | exact HB.out))) : w.heap.size ≤ gb126)); have n3_ := Aside0.mk ((by rw [hg]; exact (below_size (by repeat (first | (with_reducible first | exact HB.out | apply below_alloc | apply pw_below_drewN | apply below_drew1) | exact HB.out))) : w.heap.size ≤ gb126)); clear HB; have HB := n0_; have BK126 := n1_; have GW126 := n2_; have GE126 := n3_; clear n0_ n1_ n2_ n3_; clear hb hbox hg; have hcz8_0 : w7.cell? ⟨gb126, 0, none⟩ = some (.int .i64 a0_0) := (blk_cell BK126.out 0).trans rfl; have hcz8_1 : w7.cell? ⟨gb126, 1, none⟩ = some (.int .i64 a0_1) := (blk_cell BK126.out 1).trans rfl; have hfz8_0 := blk_frozen BK126.out 0; have hfz8_1 := blk_frozen BK126.out 1))
  go_ret
  exact ⟨by first | rfl | (simp [errW_none, errW_some] <;> rfl) | (simp [*, errW_none, errW_some] <;> rfl), by repeat (first | (with_reducible first | exact HB.out | apply below_alloc | apply pw_below_drewN | apply below_drew1 | refine below_set ?_ GE126.out) | exact HB.out)⟩
end Go.Proofs.Ytjohcjfmlhihbaa.G

/- ### F73 -/
namespace Go.Proofs.Ytjohcjfmlhihbaa.G
open Go.RowKit Go.Proofs.YtjohcjfmlhihbaaW.PrintWords Go.Proofs.YtjohcjfmlhihbaaW.PrintLast Go.Proofs.YtjohcjfmlhihbaaW.PrintMore
attribute [local go_sem] cond_true cond_false fld23_0 fld23_1 fld45_0 fld45_1 fld109_0 fld109_1 fld94_0 fld94_1 max2_int min2_int max_two min_two max_three min_three max_four min_four   -- for this text's walks alone
set_option linter.unusedVariables false
set_option linter.unusedSimpArgs false
def numnahref07_gcd.l0 : Nat → Int → Int → Option (Int)
 | 0, _, _ => none
 | k + 1, x0, x1 => if x1 > 0 then (if x1 = 0 then (none) else (numnahref07_gcd.l0 k x1 (Int.tmod x0 x1))) else (some x0)
def numnahref07_gcd.f (k : Nat) (a0 : Int) (a1 : Int) : Option (Int) := numnahref07_gcd.l0 k a0 a1
theorem numnahref07_gcd.mono_l : ∀ k, (∀ y0 y1, LeO (numnahref07_gcd.l0 k y0 y1) (numnahref07_gcd.l0 (k + 1) y0 y1))
 | 0 => fun _ _ r h => by simp [numnahref07_gcd.l0] at h
 | k + 1 => by
  have ih0 := numnahref07_gcd.mono_l k
  ·intro y0 y1
   unfold numnahref07_gcd.l0
   repeat' first
   | (with_reducible exact ih0 _ _)
   | (with_reducible exact LeO.refl _)
   | (with_reducible exact LeO.none _)
   | (with_reducible refine LeO.ite ?_ ?_)
   | (with_reducible refine LeO.bind ?_ (fun _ => ?_))
   | exact ih0 _ _
   | exact LeO.none _
   | refine LeO.ite ?_ ?_
   | refine LeO.bind ?_ (fun _ => ?_)
theorem numnahref07_gcd.mono : ∀ a0 a1 k, LeO (numnahref07_gcd.f k a0 a1) (numnahref07_gcd.f (k + 1) a0 a1) := by
 intro a0 a1 k
 have ih0 := numnahref07_gcd.mono_l k
 unfold numnahref07_gcd.f
 repeat' first
   | (with_reducible exact ih0 _ _)
   | (with_reducible exact LeO.refl _)
   | (with_reducible exact LeO.none _)
   | (with_reducible refine LeO.ite ?_ ?_)
   | (with_reducible refine LeO.bind ?_ (fun _ => ?_))
   | exact ih0 _ _
   | exact LeO.none _
   | refine LeO.ite ?_ ?_
   | refine LeO.bind ?_ (fun _ => ?_)
set_option maxHeartbeats 8000000 in
set_option maxRecDepth 100000 in
theorem numnahref07_gcd.calls (k : Nat) (a0 : Int) (a1 : Int) (r : Int) (w : World) (h : numnahref07_gcd.f k a0 a1 = some r) :
  Calls Try.prog 73 #[.int .i64 a0, .int .i64 a1] w fun e w' => e = .returned (.int .i64 r) ∧ Drawn0 w w' := by
 have H : (numnahref07_gcd.l0 k a0 a1) = some r := h
 clear h
 have H' := Aside0.mk H
 clear H
 go_enter Try.func73, Try.ntmps73
 go_wp2
 go_loopg [0, 1] k (fun kq v0 v1 w' => ∃ (x0_1 : Int) (x1_1 : Int), v0 = .int .i64 x0_1 ∧ v1 = .int .i64 x1_1 ∧ Aside0 (numnahref07_gcd.l0 kq x0_1 x1_1 = some r) ∧ Aside0 (kq ≤ k) ∧ Drawn0 w w')
 case atStart => exact ⟨(a0), (a1), (by first | rfl | (simp; done) | (simp [*]; done)), (by first | rfl | (simp; done) | (simp [*]; done)), H', ⟨Nat.le_refl _⟩, by repeat (first | exact Drawn0.refl _ | apply Drawn0.step)⟩
 case round =>
  clear H'
  try clear p2
  obtain ⟨x0_1, x1_1, rfl, rfl, HA, HK1, ⟨m1, rfl⟩⟩ := hrel
  cases gk with
  | zero => exact absurd HA.out (by simp [numnahref07_gcd.l0])
  | succ k1 =>
   have H := HA.out
   clear HA
   simp only [numnahref07_gcd.l0] at H
   by_cases c3 : x1_1 > 0
   ·rw [if_pos c3] at H
    have c3b0 : decide (0 < x1_1) = true := decide_eq_true c3
    clear c3
    by_cases c4 : x1_1 = 0
    ·rw [if_pos c4] at H
     exact absurd H (by simp)
    ·rw [if_neg c4] at H
     have c4b0 : (x1_1 == 0) = false := beq_eq_false_iff_ne.mpr c4
     have c4b1 : (x1_1 != 0) = true := bne_iff_ne.mpr c4
     have H' := Aside0.mk H
     clear H
     go_wp2
     go_roundg k1
     case measure => have := HK1.out; omega
     case rel => exact ⟨(x1_1), (Int.tmod x0_1 x1_1), (by first | rfl | (simp; done) | (simp [*]; done)), (by first | rfl | (simp; done) | (simp [*]; done)), H', ⟨by have := HK1.out; omega⟩, by repeat (first | exact Drawn0.refl _ | apply Drawn0.step)⟩
   ·rw [if_neg c3] at H
    have c3b0 : decide (0 < x1_1) = false := decide_eq_false c3
    clear c3
    obtain rfl := Option.some.inj H
    go_wp2
    go_ret
    exact ⟨by first | rfl | (simp; done) | (simp [*]; done), by repeat (first | exact Drawn0.refl _ | apply Drawn0.step)⟩
end Go.Proofs.Ytjohcjfmlhihbaa.G

/- ### F34 -/
namespace Go.Proofs.Ytjohcjfmlhihbaa.G
open Go.RowKit Go.Proofs.YtjohcjfmlhihbaaW.PrintWords Go.Proofs.YtjohcjfmlhihbaaW.PrintLast Go.Proofs.YtjohcjfmlhihbaaW.PrintMore
attribute [local go_sem] cond_true cond_false fld23_0 fld23_1 fld45_0 fld45_1 fld109_0 fld109_1 fld94_0 fld94_1 max2_int min2_int max_two min_two max_three min_three max_four min_four   -- for this text's walks alone
set_option linter.unusedVariables false
set_option linter.unusedSimpArgs false
def numnahref07_Reduced.f (k : Nat) (a0 : Int) (a1 : Int) : Option (Int × Int) := (numnahref07_gcd.f k (mx a0 (wrap64 (-a0))) a1).bind fun t370 => (if t370 = 0 then (none) else (some (wrap64 (Int.tdiv a0 t370), wrap64 (Int.tdiv a1 t370))))
theorem numnahref07_Reduced.mono : ∀ a0 a1 k, LeO (numnahref07_Reduced.f k a0 a1) (numnahref07_Reduced.f (k + 1) a0 a1) := by
 intro a0 a1 k
 unfold numnahref07_Reduced.f
 repeat' first
   | (with_reducible exact numnahref07_gcd.mono _ _ _)
   | (with_reducible exact LeO.refl _)
   | (with_reducible exact LeO.none _)
   | (with_reducible refine LeO.ite ?_ ?_)
   | (with_reducible refine LeO.bind ?_ (fun _ => ?_))
   | exact numnahref07_gcd.mono _ _ _
   | exact LeO.none _
   | refine LeO.ite ?_ ?_
   | refine LeO.bind ?_ (fun _ => ?_)
def numnahref07_Reduced.T2 : Bool × List (List Nat × List Nat) := (true, [([], []), ([], []), ([0, 1], [0, 1]), ([], []), ([], []), ([3, 4], [3, 4]), ([2, 5], [2, 5]), ([6, 0, 1, 2, 3, 4, 5, 6], [6])])
def numnahref07_Reduced.B2 : List Nat := [0, 0, 3, 0, 0, 24, 63, 127]
theorem numnahref07_Reduced.tab2 : rtab .any (opsOf Try.f34 2) = numnahref07_Reduced.T2 := by kernel_rfl
theorem numnahref07_Reduced.bits2 : waitsOk numnahref07_Reduced.T2.2 numnahref07_Reduced.B2 = true := by kernel_rfl
set_option maxHeartbeats 8000000 in
set_option maxRecDepth 100000 in
theorem numnahref07_Reduced.calls (k : Nat) (a0 : Int) (a1 : Int) (r1 : Int) (r2 : Int) (w : World) (h : numnahref07_Reduced.f k a0 a1 = some (r1, r2)) :
  Calls Try.prog 34 #[.int .i64 a0, .int .i64 a1] w fun e w' => e = .returned (.agg #[.int .i64 r1, .int .i64 r2]) ∧ Below w.heap.size w w' := by
 have hu23 := Try.underlying23
 have HB := Aside0.mk (Below.refl w.heap.size w)
 have H : ((numnahref07_gcd.f k (mx a0 (wrap64 (-a0))) a1).bind fun t370 => (if t370 = 0 then (none) else (some (wrap64 (Int.tdiv a0 t370), wrap64 (Int.tdiv a1 t370))))) = some (r1, r2) := h
 clear h
 obtain ⟨ji3, hji3⟩ : ∃ j_ : Int, (mx a0 (wrap64 (-a0))) = j_ := ⟨_, rfl⟩
 replace H : ((numnahref07_gcd.f k (ji3) a1).bind fun t370 => (if t370 = 0 then (none) else (some (wrap64 (Int.tdiv a0 t370), wrap64 (Int.tdiv a1 t370))))) = some (r1, r2) := by first | (rw [hji3] at H; exact H) | (simp only [hji3] at H ⊢; exact H)
 have hji3_ : (if a0 < (wrap64 (-a0)) then (wrap64 (-a0)) else a0) = ji3 := hji3
 replace H := Option.bind_eq_some_iff.mp H
 obtain ⟨t370, A40, H⟩ := H
 replace H : (if t370 = 0 then (none) else (some (wrap64 (Int.tdiv a0 t370), wrap64 (Int.tdiv a1 t370)))) = some (r1, r2) := H
 have A4 := Aside0.mk A40
 clear A40
 by_cases c5 : t370 = 0
 ·rw [if_pos c5] at H
  exact absurd H (by simp)
 ·rw [if_neg c5] at H
  have c5b0 : (t370 == 0) = false := beq_eq_false_iff_ne.mpr c5
  have c5b1 : (t370 != 0) = true := bne_iff_ne.mpr c5
  simp only [Option.some.injEq, Prod.mk.injEq] at H
  obtain ⟨rfl, rfl⟩ := H
  go_enter Try.func34, Try.ntmps34
  try go_wp2_with (first | ((with_reducible refine gate_dst (N := 4) rfl ?_); refine box_event ?hg (N := 4) ?hd (cs := #[.int .i64 0, .int .i64 0]) (t := 23) ?hr ?_; (case hd => rfl); (case hg => rfl); (case hr => first | (go_simp; done) | (go_simp; rfl)); intro gb369 hg w6 hbox hb; have n0_ := Aside0.mk (below_step (by repeat (first | (with_reducible first | exact HB.out | apply below_alloc | apply pw_below_drewN | apply below_drew1) | exact HB.out)) hb); have n1_ := Aside0.mk (hbox); have n2_ := Aside0.mk ((by rw [hg]; exact (below_size (by repeat (first | (with_reducible first | exact HB.out | apply below_alloc | apply pw_below_drewN | apply below_drew1) | exact HB.out))) : w.heap.size ≤ gb369)); have n3_ := Aside0.mk ((by rw [hg]; exact (below_size (by repeat (first | (with_reducible first | exact HB.out | apply below_alloc | apply pw_below_drewN | apply below_drew1) | exact HB.out))) : w.heap.size ≤ gb369)); clear HB; have HB := n0_; have BK369 := n1_; have GW369 := n2_; have GE369 := n3_; clear n0_ n1_ n2_ n3_; clear hb hbox hg) | ((with_reducible refine gate_callee (f := 73) rfl ?_); refine goesL_ (some 11) rfl rfl Try.func73 (by kernel_rfl) rfl #[.int .i64 ji3, .int .i64 a1] rfl (by (try simp only [List.map_toArray, List.map_cons, List.map_nil]); first | done | (simp only [hji3]; rfl) | rfl | (simp only [List.length_drop, List.length_take]; rfl)) ?_; (with_reducible refine (numnahref07_gcd.calls k ji3 a1 t370 _ A4.out).mono ?_); rintro e w' ⟨rfl, ⟨nd, rfl⟩⟩; refine ⟨_, rfl, ?_⟩; (try (rw [drewN_self w6]; generalize hq_ : World.drewN w6 _ = w6; have n0_ : Aside0 (w6.heap[gb369]? = some (.cells #[.int .i64 0, .int .i64 0] 23 (0, 0))) := ⟨by rw [← hq_]; exact (by (with_reducible repeat (first | refine blk_drewN ?_ _ | refine blk_drew ?_ | refine blk_alloc ?_ _)); exact BK369.out)⟩; have n1_ : Aside0 (Below w.heap.size w w6) := ⟨by rw [← hq_]; exact (by repeat (first | (with_reducible first | exact HB.out | apply below_alloc | apply pw_below_drewN | apply below_drew1 | refine below_set ?_ GE369.out) | exact HB.out))⟩; clear BK369 HB hq_; have BK369 := n0_; have HB := n1_; clear n0_ n1_))))
  have n0_ := Aside0.mk (blk_drew BK369.out)
  have n1_ := Aside0.mk (below_drew1 HB.out)
  clear BK369
  clear HB
  have BK369 := n0_
  have HB := n1_
  clear n0_ n1_
  refine start_ (n := 8) (S := fun w' => True) (ds := []) #[false, false, false, false, false, false, false, false] (by kernel_rfl) rfl rfl trivial (fun hHeld => ?_); refine with_tabW numnahref07_Reduced.tab2 numnahref07_Reduced.bits2 (fun HT_ HW_ => ?_)
  generalize w6.drew = w7 at BK369 HB hHeld ⊢
  refine pure_ (i := 0) (N := some 12) (v := ?_) (a' := ?_) #[true, false, false, false, false, false, false, false] rfl rfl (any_of HT_.out (by kernel_rfl)) (fun _ _ _ h => h) (Or.inl ⟨by rfl, ?_⟩) ?_ ?_
  rotate_left
  ·intro w'
   go_simp
   with_reducible rfl
  rotate_left
  ·simp only [Act.put, List.setIfInBounds_toArray, List.set_cons_zero, List.set_cons_succ, i64_w, i32_w]
   rfl
  refine pure_ (i := 1) (N := some 13) (v := ?_) (a' := ?_) #[true, true, false, false, false, false, false, false] rfl rfl (any_of HT_.out (by kernel_rfl)) (fun _ _ _ h => h) (Or.inl ⟨by rfl, ?_⟩) ?_ ?_
  rotate_left
  ·intro w'
   go_simp
   with_reducible rfl
  rotate_left
  ·simp only [Act.put, List.setIfInBounds_toArray, List.set_cons_zero, List.set_cons_succ, i64_w, i32_w]
   rfl
  refine pure_ (i := 2) (N := some 14) (v := ?_) (a' := ?_) #[true, true, true, false, false, false, false, false] rfl rfl (any_of HT_.out (by kernel_rfl)) (fun _ _ _ h => h) (Or.inl ⟨by rfl, ?_⟩) ?_ ?_
  rotate_left
  ·intro w'
   go_simp
   with_reducible rfl
  rotate_left
  ·simp only [Act.put, List.setIfInBounds_toArray, List.set_cons_zero, List.set_cons_succ, i64_w, i32_w]
   rfl
  refine pure_ (i := 3) (N := some 15) (v := ?_) (a' := ?_) #[true, true, true, true, false, false, false, false] rfl rfl (any_of HT_.out (by kernel_rfl)) (fun _ _ _ h => h) (Or.inl ⟨by rfl, ?_⟩) ?_ ?_
  rotate_left
  ·intro w'
   go_simp
   with_reducible rfl
  rotate_left
  ·simp only [Act.put, List.setIfInBounds_toArray, List.set_cons_zero, List.set_cons_succ, i64_w, i32_w]
   rfl
  refine pure_ (i := 4) (N := some 16) (v := ?_) (a' := ?_) #[true, true, true, true, true, false, false, false] rfl rfl (any_of HT_.out (by kernel_rfl)) (fun _ _ _ h => h) (Or.inl ⟨by rfl, ?_⟩) ?_ ?_
  rotate_left
  ·intro w'
   go_simp
   with_reducible rfl
  rotate_left
  ·simp only [Act.put, List.setIfInBounds_toArray, List.set_cons_zero, List.set_cons_succ, i64_w, i32_w]
   rfl
  refine pure_ (i := 5) (N := some 17) (v := ?_) (a' := ?_) #[true, true, true, true, true, true, false, false] rfl rfl (any_of HT_.out (by kernel_rfl)) (fun _ _ _ h => h) (Or.inl ⟨by rfl, ?_⟩) ?_ ?_
  rotate_left
  ·intro w'
   go_simp
   with_reducible rfl
  rotate_left
  ·simp only [Act.put, List.setIfInBounds_toArray, List.set_cons_zero, List.set_cons_succ, i64_w, i32_w]
   rfl
  refine pure_ (i := 6) (N := some 18) (v := ?_) (a' := ?_) #[true, true, true, true, true, true, true, false] rfl rfl (any_of HT_.out (by kernel_rfl)) (fun _ _ _ h => h) (Or.inl ⟨by rfl, ?_⟩) ?_ ?_
  rotate_left
  ·intro w'
   go_simp
   with_reducible rfl
  rotate_left
  ·simp only [Act.put, List.setIfInBounds_toArray, List.set_cons_zero, List.set_cons_succ, i64_w, i32_w]
   rfl
  refine one_ (i := 7) (N := none) #[true, true, true, true, true, true, true, true] rfl rfl (one_of HT_.out (by kernel_rfl)) (by decide) (fun K hK => ?_)
  have hs8 : w7.cell? ⟨gb369, 0, none⟩ = some (.int .i64 0) := (blk_cell BK369.out 0).trans rfl
  have hfs8 := blk_frozen BK369.out 0
  have hs9 : w7.cell? ⟨gb369, 1, none⟩ = some (.int .i64 0) := (blk_cell BK369.out 1).trans rfl
  have hfs9 := blk_frozen BK369.out 1
  refine skip_ (w1 := ?_) (by rfl) rfl ?_ ?_
  rotate_left
  ·go_simp
   rfl
  refine hK.out _ _ trivial (fun hHeld => ?_)
  clear hK K
  refine done_ (done_of HT_.out (by kernel_rfl)) ?_
  try go_wp2
  refine bodyPost_ret (results_cell_row rfl _ _ gb369 23 #[.int .i64 (wrap64 (Int.tdiv a0 t370)), .int .i64 (wrap64 (Int.tdiv a1 t370))] (0, 0) _ rfl (by (with_reducible repeat (first | refine blk_drewN ?_ _ | refine blk_drew ?_ | refine blk_alloc ?_ _)); refine blk_put (cs := #[.int .i64 (wrap64 (Int.tdiv a0 t370)), .int .i64 0]) ?_ 1 _ rfl; (with_reducible repeat (first | refine blk_drewN ?_ _ | refine blk_drew ?_ | refine blk_alloc ?_ _)); refine blk_put (cs := #[.int .i64 0, .int .i64 0]) ?_ 0 _ rfl; (with_reducible repeat (first | refine blk_drewN ?_ _ | refine blk_drew ?_ | refine blk_alloc ?_ _)); exact BK369.out) Try.underlying23 rfl (by kernel_rfl)) rfl ?_
  exact ⟨by first | rfl | (simp [errW_none, errW_some] <;> rfl) | (simp only [← hji3]; first | rfl | (simp [errW_none, errW_some] <;> rfl)) | (simp [*, errW_none, errW_some] <;> rfl), by repeat (first | (with_reducible first | exact HB.out | apply below_alloc | apply pw_below_drewN | apply below_drew1 | refine below_set ?_ GE369.out) | exact HB.out)⟩
end Go.Proofs.Ytjohcjfmlhihbaa.G

/- ### F28 -/
namespace Go.Proofs.Ytjohcjfmlhihbaa.G
open Go.RowKit Go.Proofs.YtjohcjfmlhihbaaW.PrintWords Go.Proofs.YtjohcjfmlhihbaaW.PrintLast Go.Proofs.YtjohcjfmlhihbaaW.PrintMore
attribute [local go_sem] cond_true cond_false fld23_0 fld23_1 fld45_0 fld45_1 fld109_0 fld109_1 fld94_0 fld94_1 max2_int min2_int max_two min_two max_three min_three max_four min_four   -- for this text's walks alone
set_option linter.unusedVariables false
set_option linter.unusedSimpArgs false
def numnahref07_Add.f (k : Nat) (a0_0 : Int) (a0_1 : Int) (a1_0 : Int) (a1_1 : Int) : Option (Int × Int) := (numnahref07_Reduced.f k (wrap64 ((wrap64 (a0_0 * a1_1)) + (wrap64 (a1_0 * a0_1)))) (wrap64 (a0_1 * a1_1))).bind fun bt374 => (some (bt374.1, bt374.2))
theorem numnahref07_Add.mono : ∀ a0 a1 a2 a3 k, LeO (numnahref07_Add.f k a0 a1 a2 a3) (numnahref07_Add.f (k + 1) a0 a1 a2 a3) := by
 intro a0 a1 a2 a3 k
 unfold numnahref07_Add.f
 repeat' first
   | (with_reducible exact numnahref07_Reduced.mono _ _ _)
   | (with_reducible exact LeO.refl _)
   | (with_reducible exact LeO.none _)
   | (with_reducible refine LeO.ite ?_ ?_)
   | (with_reducible refine LeO.bind ?_ (fun _ => ?_))
   | exact numnahref07_Reduced.mono _ _ _
   | exact LeO.none _
   | refine LeO.ite ?_ ?_
   | refine LeO.bind ?_ (fun _ => ?_)
set_option maxHeartbeats 8000000 in
set_option maxRecDepth 100000 in
theorem numnahref07_Add.calls (k : Nat) (a0_0 : Int) (a0_1 : Int) (a1_0 : Int) (a1_1 : Int) (r1 : Int) (r2 : Int) (w : World) (h : numnahref07_Add.f k a0_0 a0_1 a1_0 a1_1 = some (r1, r2)) :
  Calls Try.prog 28 #[.agg #[.int .i64 a0_0, .int .i64 a0_1], .agg #[.int .i64 a1_0, .int .i64 a1_1]] w fun e w' => e = .returned (.agg #[.int .i64 r1, .int .i64 r2]) ∧ Below w.heap.size w w' := by
 have hu23 := Try.underlying23
 have HB := Aside0.mk (Below.refl w.heap.size w)
 have H : ((numnahref07_Reduced.f k (wrap64 ((wrap64 (a0_0 * a1_1)) + (wrap64 (a1_0 * a0_1)))) (wrap64 (a0_1 * a1_1))).bind fun bt374 => (some (bt374.1, bt374.2))) = some (r1, r2) := h
 clear h
 replace H := Option.bind_eq_some_iff.mp H
 obtain ⟨⟨t374, t375⟩, A30, H⟩ := H
 replace H : (some (t374, t375)) = some (r1, r2) := H
 have A3 := Aside0.mk A30
 clear A30
 simp only [Option.some.injEq, Prod.mk.injEq] at H
 obtain ⟨rfl, rfl⟩ := H
 go_enter Try.func28, Try.ntmps28
 go_wp2_with (first | ((with_reducible refine gate_dst (N := 2) rfl ?_); refine box_event ?hg (N := 2) ?hd (cs := #[.int .i64 a0_0, .int .i64 a0_1]) (t := 23) ?hr ?_; (case hd => rfl); (case hg => rfl); (case hr => first | (go_simp; done) | (go_simp; rfl)); intro gb371 hg w4 hbox hb; have n0_ := Aside0.mk (below_step (by repeat (first | (with_reducible first | exact HB.out | apply below_alloc | apply pw_below_drewN | apply below_drew1) | exact HB.out)) hb); have n1_ := Aside0.mk (hbox); have n2_ := Aside0.mk ((by rw [hg]; exact (below_size (by repeat (first | (with_reducible first | exact HB.out | apply below_alloc | apply pw_below_drewN | apply below_drew1) | exact HB.out))) : w.heap.size ≤ gb371)); have n3_ := Aside0.mk ((by rw [hg]; exact (below_size (by repeat (first | (with_reducible first | exact HB.out | apply below_alloc | apply pw_below_drewN | apply below_drew1) | exact HB.out))) : w.heap.size ≤ gb371)); clear HB; have HB := n0_; have BK371 := n1_; have GW371 := n2_; have GE371 := n3_; clear n0_ n1_ n2_ n3_; clear hb hbox hg) | ((with_reducible refine gate_dst (N := 3) rfl ?_); refine box_event ?hg (N := 3) ?hd (cs := #[.int .i64 a1_0, .int .i64 a1_1]) (t := 23) ?hr ?_; (case hd => rfl); (case hg => rfl); (case hr => first | (go_simp; done) | (go_simp; rfl)); intro gb372 hg w5 hbox hb; have n0_ := Aside0.mk (blk_below (g := gb371) (o := .cells #[.int .i64 a0_0, .int .i64 a0_1] 23 (0, 0)) (by (with_reducible repeat (first | refine blk_drewN ?_ _ | refine blk_drew ?_ | refine blk_alloc ?_ _)); exact BK371.out) hb); have n1_ := Aside0.mk (below_step (by repeat (first | (with_reducible first | exact HB.out | apply below_alloc | apply pw_below_drewN | apply below_drew1 | refine below_set ?_ GE371.out) | exact HB.out)) hb); have n2_ := Aside0.mk (hbox); have n3_ := Aside0.mk ((by rw [hg]; exact (below_size (by repeat (first | (with_reducible first | exact HB.out | apply below_alloc | apply pw_below_drewN | apply below_drew1 | refine below_set ?_ GE371.out) | exact HB.out))) : w.heap.size ≤ gb372)); have n4_ := Aside0.mk ((by rw [hg]; exact (below_size (by repeat (first | (with_reducible first | exact HB.out | apply below_alloc | apply pw_below_drewN | apply below_drew1 | refine below_set ?_ GE371.out) | exact HB.out))) : w.heap.size ≤ gb372)); have n5_ := Aside0.mk ((by rw [hg]; exact Nat.ne_of_lt (blk_lt (g := gb371) (o := .cells #[.int .i64 a0_0, .int .i64 a0_1] 23 (0, 0)) (by (with_reducible repeat (first | refine blk_drewN ?_ _ | refine blk_drew ?_ | refine blk_alloc ?_ _)); exact BK371.out)) : gb371 ≠ gb372)); have n6_ := Aside0.mk ((by rw [hg]; exact Nat.ne_of_gt (blk_lt (g := gb371) (o := .cells #[.int .i64 a0_0, .int .i64 a0_1] 23 (0, 0)) (by (with_reducible repeat (first | refine blk_drewN ?_ _ | refine blk_drew ?_ | refine blk_alloc ?_ _)); exact BK371.out)) : gb372 ≠ gb371)); clear BK371; clear HB; have BK371 := n0_; have HB := n1_; have BK372 := n2_; have GW372 := n3_; have GE372 := n4_; have NB371_372 := n5_; have NB372_371 := n6_; clear n0_ n1_ n2_ n3_ n4_ n5_ n6_; clear hb hbox hg) | ((with_reducible refine gate_dst (N := 4) rfl ?_); refine box_event ?hg (N := 4) ?hd (cs := #[.int .i64 0, .int .i64 0]) (t := 23) ?hr ?_; (case hd => rfl); (case hg => rfl); (case hr => first | (go_simp; done) | (go_simp; rfl)); intro gb373 hg w6 hbox hb; have n0_ := Aside0.mk (blk_below (g := gb371) (o := .cells #[.int .i64 a0_0, .int .i64 a0_1] 23 (0, 0)) (by (with_reducible repeat (first | refine blk_drewN ?_ _ | refine blk_drew ?_ | refine blk_alloc ?_ _)); exact BK371.out) hb); have n1_ := Aside0.mk (blk_below (g := gb372) (o := .cells #[.int .i64 a1_0, .int .i64 a1_1] 23 (0, 0)) (by (with_reducible repeat (first | refine blk_drewN ?_ _ | refine blk_drew ?_ | refine blk_alloc ?_ _)); exact BK372.out) hb); have n2_ := Aside0.mk (below_step (by repeat (first | (with_reducible first | exact HB.out | apply below_alloc | apply pw_below_drewN | apply below_drew1 | refine below_set ?_ GE371.out | refine below_set ?_ GE372.out) | exact HB.out)) hb); have n3_ := Aside0.mk (hbox); have n4_ := Aside0.mk ((by rw [hg]; exact (below_size (by repeat (first | (with_reducible first | exact HB.out | apply below_alloc | apply pw_below_drewN | apply below_drew1 | refine below_set ?_ GE371.out | refine below_set ?_ GE372.out) | exact HB.out))) : w.heap.size ≤ gb373)); have n5_ := Aside0.mk ((by rw [hg]; exact (below_size (by repeat (first | (with_reducible first | exact HB.out | apply below_alloc | apply pw_below_drewN | apply below_drew1 | refine below_set ?_ GE371.out | refine below_set ?_ GE372.out) | exact HB.out))) : w.heap.size ≤ gb373)); have n6_ := Aside0.mk ((by rw [hg]; exact Nat.ne_of_lt (blk_lt (g := gb371) (o := .cells #[.int .i64 a0_0, .int .i64 a0_1] 23 (0, 0)) (by (with_reducible repeat (first | refine blk_drewN ?_ _ | refine blk_drew ?_ | refine blk_alloc ?_ _)); exact BK371.out)) : gb371 ≠ gb373)); have n7_ := Aside0.mk ((by rw [hg]; exact Nat.ne_of_gt (blk_lt (g := gb371) (o := .cells #[.int .i64 a0_0, .int .i64 a0_1] 23 (0, 0)) (by (with_reducible repeat (first | refine blk_drewN ?_ _ | refine blk_drew ?_ | refine blk_alloc ?_ _)); exact BK371.out)) : gb373 ≠ gb371)); have n8_ := Aside0.mk ((by rw [hg]; exact Nat.ne_of_lt (blk_lt (g := gb372) (o := .cells #[.int .i64 a1_0, .int .i64 a1_1] 23 (0, 0)) (by (with_reducible repeat (first | refine blk_drewN ?_ _ | refine blk_drew ?_ | refine blk_alloc ?_ _)); exact BK372.out)) : gb372 ≠ gb373)); have n9_ := Aside0.mk ((by rw [hg]; exact Nat.ne_of_gt (blk_lt (g := gb372) (o := .cells #[.int .i64 a1_0, .int .i64 a1_1] 23 (0, 0)) (by (with_reducible repeat (first | refine blk_drewN ?_ _ | refine blk_drew ?_ | refine blk_alloc ?_ _)); exact BK372.out)) : gb373 ≠ gb372)); clear BK371; clear BK372; clear HB; have BK371 := n0_; have BK372 := n1_; have HB := n2_; have BK373 := n3_; have GW373 := n4_; have GE373 := n5_; have NB371_373 := n6_; have NB373_371 := n7_; have NB372_373 := n8_; have NB373_372 := n9_; clear n0_ n1_ n2_ n3_ n4_ n5_ n6_ n7_ n8_ n9_; clear hb hbox hg; have hnb7 := NB371_372.out; have hnc7 := NB372_371.out; have hnb8 := NB371_373.out; have hnc8 := NB373_371.out; have hcz9_0 : w6.cell? ⟨gb371, 0, none⟩ = some (.int .i64 a0_0) := (blk_cell BK371.out 0).trans rfl; have hcz9_1 : w6.cell? ⟨gb371, 1, none⟩ = some (.int .i64 a0_1) := (blk_cell BK371.out 1).trans rfl; have hfz9_0 := blk_frozen BK371.out 0; have hfz9_1 := blk_frozen BK371.out 1; have hnb10 := NB372_373.out; have hnc10 := NB373_372.out; have hcz11_0 : w6.cell? ⟨gb372, 0, none⟩ = some (.int .i64 a1_0) := (blk_cell BK372.out 0).trans rfl; have hcz11_1 : w6.cell? ⟨gb372, 1, none⟩ = some (.int .i64 a1_1) := (blk_cell BK372.out 1).trans rfl; have hfz11_0 := blk_frozen BK372.out 0; have hfz11_1 := blk_frozen BK372.out 1) | ((with_reducible refine gate_callee (f := 34) rfl ?_); refine goesL_ (some 21) rfl rfl Try.func34 (by kernel_rfl) rfl #[.int .i64 (wrap64 ((wrap64 (a0_0 * a1_1)) + (wrap64 (a1_0 * a0_1)))), .int .i64 (wrap64 (a0_1 * a1_1))] rfl (by (try simp only [List.map_toArray, List.map_cons, List.map_nil]); first | done | rfl | (simp only [List.length_drop, List.length_take]; rfl)) ?_; (with_reducible refine (numnahref07_Reduced.calls k (wrap64 ((wrap64 (a0_0 * a1_1)) + (wrap64 (a1_0 * a0_1)))) (wrap64 (a0_1 * a1_1)) t374 t375 _ A3.out).mono ?_); rintro e w12 ⟨rfl, hb⟩; refine ⟨_, rfl, ?_⟩; have n0_ := Aside0.mk (blk_below (g := gb371) (o := .cells #[.int .i64 a0_0, .int .i64 a0_1] 23 (0, 0)) (by (with_reducible repeat (first | refine blk_drewN ?_ _ | refine blk_drew ?_ | refine blk_alloc ?_ _)); exact BK371.out) hb); have n1_ := Aside0.mk (blk_below (g := gb372) (o := .cells #[.int .i64 a1_0, .int .i64 a1_1] 23 (0, 0)) (by (with_reducible repeat (first | refine blk_drewN ?_ _ | refine blk_drew ?_ | refine blk_alloc ?_ _)); exact BK372.out) hb); have n2_ := Aside0.mk (blk_below (g := gb373) (o := .cells #[.int .i64 0, .int .i64 0] 23 (0, 0)) (by (with_reducible repeat (first | refine blk_drewN ?_ _ | refine blk_drew ?_ | refine blk_alloc ?_ _)); exact BK373.out) hb); have n3_ := Aside0.mk (below_step (by repeat (first | (with_reducible first | exact HB.out | apply below_alloc | apply pw_below_drewN | apply below_drew1 | refine below_set ?_ GE371.out | refine below_set ?_ GE372.out | refine below_set ?_ GE373.out) | exact HB.out)) hb); clear BK371; clear BK372; clear BK373; clear HB; have BK371 := n0_; have BK372 := n1_; have BK373 := n2_; have HB := n3_; clear n0_ n1_ n2_ n3_; (try clear hb); (try clear hb2); (try clear hk); (try clear hi); have hcz13_0 : w12.cell? ⟨gb373, 0, none⟩ = some (.int .i64 0) := (blk_cell BK373.out 0).trans rfl; have hcz13_1 : w12.cell? ⟨gb373, 1, none⟩ = some (.int .i64 0) := (blk_cell BK373.out 1).trans rfl; have hfz13_0 := blk_frozen BK373.out 0; have hfz13_1 := blk_frozen BK373.out 1))
 refine bodyPost_ret (results_cell_row rfl _ _ gb373 23 #[.int .i64 t374, .int .i64 t375] (0, 0) _ rfl (by (with_reducible repeat (first | refine blk_drewN ?_ _ | refine blk_drew ?_ | refine blk_alloc ?_ _)); refine blk_put (cs := #[.int .i64 t374, .int .i64 0]) ?_ 1 _ rfl; (with_reducible repeat (first | refine blk_drewN ?_ _ | refine blk_drew ?_ | refine blk_alloc ?_ _)); refine blk_put (cs := #[.int .i64 0, .int .i64 0]) ?_ 0 _ rfl; (with_reducible repeat (first | refine blk_drewN ?_ _ | refine blk_drew ?_ | refine blk_alloc ?_ _)); exact BK373.out) Try.underlying23 rfl (by kernel_rfl)) rfl ?_
 exact ⟨by first | rfl | (simp [errW_none, errW_some] <;> rfl) | (simp [*, errW_none, errW_some] <;> rfl), by repeat (first | (with_reducible first | exact HB.out | apply below_alloc | apply pw_below_drewN | apply below_drew1 | refine below_set ?_ GE371.out | refine below_set ?_ GE372.out | refine below_set ?_ GE373.out) | exact HB.out)⟩
end Go.Proofs.Ytjohcjfmlhihbaa.G

/- ### F30 -/
namespace Go.Proofs.Ytjohcjfmlhihbaa.G
open Go.RowKit Go.Proofs.YtjohcjfmlhihbaaW.PrintWords Go.Proofs.YtjohcjfmlhihbaaW.PrintLast Go.Proofs.YtjohcjfmlhihbaaW.PrintMore
attribute [local go_sem] cond_true cond_false fld23_0 fld23_1 fld45_0 fld45_1 fld109_0 fld109_1 fld94_0 fld94_1 max2_int min2_int max_two min_two max_three min_three max_four min_four   -- for this text's walks alone
set_option linter.unusedVariables false
set_option linter.unusedSimpArgs false
def numnahref07_Less.f (a0_0 : Int) (a0_1 : Int) (a1_0 : Int) (a1_1 : Int) : Option (Bool) := some (decide ((wrap64 (a0_0 * a1_1)) < (wrap64 (a1_0 * a0_1))))
set_option maxHeartbeats 8000000 in
set_option maxRecDepth 100000 in
theorem numnahref07_Less.calls (a0_0 : Int) (a0_1 : Int) (a1_0 : Int) (a1_1 : Int) (r : Bool) (w : World) (h : numnahref07_Less.f a0_0 a0_1 a1_0 a1_1 = some r) :
  Calls Try.prog 30 #[.agg #[.int .i64 a0_0, .int .i64 a0_1], .agg #[.int .i64 a1_0, .int .i64 a1_1]] w fun e w' => e = .returned (.bool r) ∧ Below w.heap.size w w' := by
 have hu23 := Try.underlying23
 have HB := Aside0.mk (Below.refl w.heap.size w)
 have H : (some (decide ((wrap64 (a0_0 * a1_1)) < (wrap64 (a1_0 * a0_1))))) = some r := h
 clear h
 obtain rfl := Option.some.inj H
 go_enter Try.func30, Try.ntmps30
 go_wp2_with (first | ((with_reducible refine gate_dst (N := 2) rfl ?_); refine box_event ?hg (N := 2) ?hd (cs := #[.int .i64 a0_0, .int .i64 a0_1]) (t := 23) ?hr ?_; (case hd => rfl); (case hg => rfl); (case hr => first | (go_simp; done) | (go_simp; rfl)); intro gb381 hg w3 hbox hb; have n0_ := Aside0.mk (below_step (by repeat (first | (with_reducible first | exact HB.out | apply below_alloc | apply pw_below_drewN | apply below_drew1) | exact HB.out)) hb); have n1_ := Aside0.mk (hbox); have n2_ := Aside0.mk ((by rw [hg]; exact (below_size (by repeat (first | (with_reducible first | exact HB.out | apply below_alloc | apply pw_below_drewN | apply below_drew1) | exact HB.out))) : w.heap.size ≤ gb381)); have n3_ := Aside0.mk ((by rw [hg]; exact (below_size (by repeat (first | (with_reducible first | exact HB.out | apply below_alloc | apply pw_below_drewN | apply below_drew1) | exact HB.out))) : w.heap.size ≤ gb381)); clear HB; have HB := n0_; have BK381 := n1_; have GW381 := n2_; have GE381 := n3_; clear n0_ n1_ n2_ n3_; clear hb hbox hg) | ((with_reducible refine gate_dst (N := 3) rfl ?_); refine box_event ?hg (N := 3) ?hd (cs := #[.int .i64 a1_0, .int .i64 a1_1]) (t := 23) ?hr ?_; (case hd => rfl); (case hg => rfl); (case hr => first | (go_simp; done) | (go_simp; rfl)); intro gb382 hg w4 hbox hb; have n0_ := Aside0.mk (blk_below (g := gb381) (o := .cells #[.int .i64 a0_0, .int .i64 a0_1] 23 (0, 0)) (by (with_reducible repeat (first | refine blk_drewN ?_ _ | refine blk_drew ?_ | refine blk_alloc ?_ _)); exact BK381.out) hb); have n1_ := Aside0.mk (below_step (by repeat (first | (with_reducible first | exact HB.out | apply below_alloc | apply pw_below_drewN | apply below_drew1 | refine below_set ?_ GE381.out) | exact HB.out)) hb); have n2_ := Aside0.mk (hbox); have n3_ := Aside0.mk ((by rw [hg]; exact (below_size (by repeat (first | (with_reducible first | exact HB.out | apply below_alloc | apply pw_below_drewN | apply below_drew1 | refine below_set ?_ GE381.out) | exact HB.out))) : w.heap.size ≤ gb382)); have n4_ := Aside0.mk ((by rw [hg]; exact (below_size (by repeat (first | (with_reducible first | exact HB.out | apply below_alloc | apply pw_below_drewN | apply below_drew1 | refine below_set ?_ GE381.out) | exact HB.out))) : w.heap.size ≤ gb382)); have n5_ := Aside0.mk ((by rw [hg]; exact Nat.ne_of_lt (blk_lt (g := gb381) (o := .cells #[.int .i64 a0_0, .int .i64 a0_1] 23 (0, 0)) (by (with_reducible repeat (first | refine blk_drewN ?_ _ | refine blk_drew ?_ | refine blk_alloc ?_ _)); exact BK381.out)) : gb381 ≠ gb382)); have n6_ := Aside0.mk ((by rw [hg]; exact Nat.ne_of_gt (blk_lt (g := gb381) (o := .cells #[.int .i64 a0_0, .int .i64 a0_1] 23 (0, 0)) (by (with_reducible repeat (first | refine blk_drewN ?_ _ | refine blk_drew ?_ | refine blk_alloc ?_ _)); exact BK381.out)) : gb382 ≠ gb381)); clear BK381; clear HB; have BK381 := n0_; have HB := n1_; have BK382 := n2_; have GW382 := n3_; have GE382 := n4_; have NB381_382 := n5_; have NB382_381 := n6_; clear n0_ n1_ n2_ n3_ n4_ n5_ n6_; clear hb hbox hg; have hnb5 := NB381_382.out; have hnc5 := NB382_381.out; have hcz6_0 : w4.cell? ⟨gb381, 0, none⟩ = some (.int .i64 a0_0) := (blk_cell BK381.out 0).trans rfl; have hcz6_1 : w4.cell? ⟨gb381, 1, none⟩ = some (.int .i64 a0_1) := (blk_cell BK381.out 1).trans rfl; have hfz6_0 := blk_frozen BK381.out 0; have hfz6_1 := blk_frozen BK381.out 1; have hcz7_0 : w4.cell? ⟨gb382, 0, none⟩ = some (.int .i64 a1_0) := (blk_cell BK382.out 0).trans rfl; have hcz7_1 : w4.cell? ⟨gb382, 1, none⟩ = some (.int .i64 a1_1) := (blk_cell BK382.out 1).trans rfl; have hfz7_0 := blk_frozen BK382.out 0; have hfz7_1 := blk_frozen BK382.out 1))
 go_ret
 exact ⟨by first | rfl | (simp [errW_none, errW_some] <;> rfl) | (simp [*, errW_none, errW_some] <;> rfl), by repeat (first | (with_reducible first | exact HB.out | apply below_alloc | apply pw_below_drewN | apply below_drew1 | refine below_set ?_ GE381.out | refine below_set ?_ GE382.out) | exact HB.out)⟩
end Go.Proofs.Ytjohcjfmlhihbaa.G

/- ### F31 -/
namespace Go.Proofs.Ytjohcjfmlhihbaa.G
open Go.RowKit Go.Proofs.YtjohcjfmlhihbaaW.PrintWords Go.Proofs.YtjohcjfmlhihbaaW.PrintLast Go.Proofs.YtjohcjfmlhihbaaW.PrintMore
attribute [local go_sem] cond_true cond_false fld23_0 fld23_1 fld45_0 fld45_1 fld109_0 fld109_1 fld94_0 fld94_1 max2_int min2_int max_two min_two max_three min_three max_four min_four   -- for this text's walks alone
set_option linter.unusedVariables false
set_option linter.unusedSimpArgs false
def numnahref07_Sub.f (k : Nat) (a0_0 : Int) (a0_1 : Int) (a1_0 : Int) (a1_1 : Int) : Option (Int × Int) := (numnahref07_Reduced.f k (wrap64 ((wrap64 (a0_0 * a1_1)) - (wrap64 (a1_0 * a0_1)))) (wrap64 (a0_1 * a1_1))).bind fun bt379 => (some (bt379.1, bt379.2))
theorem numnahref07_Sub.mono : ∀ a0 a1 a2 a3 k, LeO (numnahref07_Sub.f k a0 a1 a2 a3) (numnahref07_Sub.f (k + 1) a0 a1 a2 a3) := by
 intro a0 a1 a2 a3 k
 unfold numnahref07_Sub.f
 repeat' first
   | (with_reducible exact numnahref07_Reduced.mono _ _ _)
   | (with_reducible exact LeO.refl _)
   | (with_reducible exact LeO.none _)
   | (with_reducible refine LeO.ite ?_ ?_)
   | (with_reducible refine LeO.bind ?_ (fun _ => ?_))
   | exact numnahref07_Reduced.mono _ _ _
   | exact LeO.none _
   | refine LeO.ite ?_ ?_
   | refine LeO.bind ?_ (fun _ => ?_)
set_option maxHeartbeats 8000000 in
set_option maxRecDepth 100000 in
theorem numnahref07_Sub.calls (k : Nat) (a0_0 : Int) (a0_1 : Int) (a1_0 : Int) (a1_1 : Int) (r1 : Int) (r2 : Int) (w : World) (h : numnahref07_Sub.f k a0_0 a0_1 a1_0 a1_1 = some (r1, r2)) :
  Calls Try.prog 31 #[.agg #[.int .i64 a0_0, .int .i64 a0_1], .agg #[.int .i64 a1_0, .int .i64 a1_1]] w fun e w' => e = .returned (.agg #[.int .i64 r1, .int .i64 r2]) ∧ Below w.heap.size w w' := by
 have hu23 := Try.underlying23
 have HB := Aside0.mk (Below.refl w.heap.size w)
 have H : ((numnahref07_Reduced.f k (wrap64 ((wrap64 (a0_0 * a1_1)) - (wrap64 (a1_0 * a0_1)))) (wrap64 (a0_1 * a1_1))).bind fun bt379 => (some (bt379.1, bt379.2))) = some (r1, r2) := h
 clear h
 replace H := Option.bind_eq_some_iff.mp H
 obtain ⟨⟨t379, t380⟩, A30, H⟩ := H
 replace H : (some (t379, t380)) = some (r1, r2) := H
 have A3 := Aside0.mk A30
 clear A30
 simp only [Option.some.injEq, Prod.mk.injEq] at H
 obtain ⟨rfl, rfl⟩ := H
 go_enter Try.func31, Try.ntmps31
 go_wp2_with (first | ((with_reducible refine gate_dst (N := 2) rfl ?_); refine box_event ?hg (N := 2) ?hd (cs := #[.int .i64 a0_0, .int .i64 a0_1]) (t := 23) ?hr ?_; (case hd => rfl); (case hg => rfl); (case hr => first | (go_simp; done) | (go_simp; rfl)); intro gb376 hg w4 hbox hb; have n0_ := Aside0.mk (below_step (by repeat (first | (with_reducible first | exact HB.out | apply below_alloc | apply pw_below_drewN | apply below_drew1) | exact HB.out)) hb); have n1_ := Aside0.mk (hbox); have n2_ := Aside0.mk ((by rw [hg]; exact (below_size (by repeat (first | (with_reducible first | exact HB.out | apply below_alloc | apply pw_below_drewN | apply below_drew1) | exact HB.out))) : w.heap.size ≤ gb376)); have n3_ := Aside0.mk ((by rw [hg]; exact (below_size (by repeat (first | (with_reducible first | exact HB.out | apply below_alloc | apply pw_below_drewN | apply below_drew1) | exact HB.out))) : w.heap.size ≤ gb376)); clear HB; have HB := n0_; have BK376 := n1_; have GW376 := n2_; have GE376 := n3_; clear n0_ n1_ n2_ n3_; clear hb hbox hg) | ((with_reducible refine gate_dst (N := 3) rfl ?_); refine box_event ?hg (N := 3) ?hd (cs := #[.int .i64 a1_0, .int .i64 a1_1]) (t := 23) ?hr ?_; (case hd => rfl); (case hg => rfl); (case hr => first | (go_simp; done) | (go_simp; rfl)); intro gb377 hg w5 hbox hb; have n0_ := Aside0.mk (blk_below (g := gb376) (o := .cells #[.int .i64 a0_0, .int .i64 a0_1] 23 (0, 0)) (by (with_reducible repeat (first | refine blk_drewN ?_ _ | refine blk_drew ?_ | refine blk_alloc ?_ _)); exact BK376.out) hb); have n1_ := Aside0.mk (below_step (by repeat (first | (with_reducible first | exact HB.out | apply below_alloc | apply pw_below_drewN | apply below_drew1 | refine below_set ?_ GE376.out) | exact HB.out)) hb); have n2_ := Aside0.mk (hbox); have n3_ := Aside0.mk ((by rw [hg]; exact (below_size (by repeat (first | (with_reducible first | exact HB.out | apply below_alloc | apply pw_below_drewN | apply below_drew1 | refine below_set ?_ GE376.out) | exact HB.out))) : w.heap.size ≤ gb377)); have n4_ := Aside0.mk ((by rw [hg]; exact (below_size (by repeat (first | (with_reducible first | exact HB.out | apply below_alloc | apply pw_below_drewN | apply below_drew1 | refine below_set ?_ GE376.out) | exact HB.out))) : w.heap.size ≤ gb377)); have n5_ := Aside0.mk ((by rw [hg]; exact Nat.ne_of_lt (blk_lt (g := gb376) (o := .cells #[.int .i64 a0_0, .int .i64 a0_1] 23 (0, 0)) (by (with_reducible repeat (first | refine blk_drewN ?_ _ | refine blk_drew ?_ | refine blk_alloc ?_ _)); exact BK376.out)) : gb376 ≠ gb377)); have n6_ := Aside0.mk ((by rw [hg]; exact Nat.ne_of_gt (blk_lt (g := gb376) (o := .cells #[.int .i64 a0_0, .int .i64 a0_1] 23 (0, 0)) (by (with_reducible repeat (first | refine blk_drewN ?_ _ | refine blk_drew ?_ | refine blk_alloc ?_ _)); exact BK376.out)) : gb377 ≠ gb376)); clear BK376; clear HB; have BK376 := n0_; have HB := n1_; have BK377 := n2_; have GW377 := n3_; have GE377 := n4_; have NB376_377 := n5_; have NB377_376 := n6_; clear n0_ n1_ n2_ n3_ n4_ n5_ n6_; clear hb hbox hg) | ((with_reducible refine gate_dst (N := 4) rfl ?_); refine box_event ?hg (N := 4) ?hd (cs := #[.int .i64 0, .int .i64 0]) (t := 23) ?hr ?_; (case hd => rfl); (case hg => rfl); (case hr => first | (go_simp; done) | (go_simp; rfl)); intro gb378 hg w6 hbox hb; have n0_ := Aside0.mk (blk_below (g := gb376) (o := .cells #[.int .i64 a0_0, .int .i64 a0_1] 23 (0, 0)) (by (with_reducible repeat (first | refine blk_drewN ?_ _ | refine blk_drew ?_ | refine blk_alloc ?_ _)); exact BK376.out) hb); have n1_ := Aside0.mk (blk_below (g := gb377) (o := .cells #[.int .i64 a1_0, .int .i64 a1_1] 23 (0, 0)) (by (with_reducible repeat (first | refine blk_drewN ?_ _ | refine blk_drew ?_ | refine blk_alloc ?_ _)); exact BK377.out) hb); have n2_ := Aside0.mk (below_step (by repeat (first | (with_reducible first | exact HB.out | apply below_alloc | apply pw_below_drewN | apply below_drew1 | refine below_set ?_ GE376.out | refine below_set ?_ GE377.out) | exact HB.out)) hb); have n3_ := Aside0.mk (hbox); have n4_ := Aside0.mk ((by rw [hg]; exact (below_size (by repeat (first | (with_reducible first | exact HB.out | apply below_alloc | apply pw_below_drewN | apply below_drew1 | refine below_set ?_ GE376.out | refine below_set ?_ GE377.out) | exact HB.out))) : w.heap.size ≤ gb378)); have n5_ := Aside0.mk ((by rw [hg]; exact (below_size (by repeat (first | (with_reducible first | exact HB.out | apply below_alloc | apply pw_below_drewN | apply below_drew1 | refine below_set ?_ GE376.out | refine below_set ?_ GE377.out) | exact HB.out))) : w.heap.size ≤ gb378)); have n6_ := Aside0.mk ((by rw [hg]; exact Nat.ne_of_lt (blk_lt (g := gb376) (o := .cells #[.int .i64 a0_0, .int .i64 a0_1] 23 (0, 0)) (by (with_reducible repeat (first | refine blk_drewN ?_ _ | refine blk_drew ?_ | refine blk_alloc ?_ _)); exact BK376.out)) : gb376 ≠ gb378)); have n7_ := Aside0.mk ((by rw [hg]; exact Nat.ne_of_gt (blk_lt (g := gb376) (o := .cells #[.int .i64 a0_0, .int .i64 a0_1] 23 (0, 0)) (by (with_reducible repeat (first | refine blk_drewN ?_ _ | refine blk_drew ?_ | refine blk_alloc ?_ _)); exact BK376.out)) : gb378 ≠ gb376)); have n8_ := Aside0.mk ((by rw [hg]; exact Nat.ne_of_lt (blk_lt (g := gb377) (o := .cells #[.int .i64 a1_0, .int .i64 a1_1] 23 (0, 0)) (by (with_reducible repeat (first | refine blk_drewN ?_ _ | refine blk_drew ?_ | refine blk_alloc ?_ _)); exact BK377.out)) : gb377 ≠ gb378)); have n9_ := Aside0.mk ((by rw [hg]; exact Nat.ne_of_gt (blk_lt (g := gb377) (o := .cells #[.int .i64 a1_0, .int .i64 a1_1] 23 (0, 0)) (by (with_reducible repeat (first | refine blk_drewN ?_ _ | refine blk_drew ?_ | refine blk_alloc ?_ _)); exact BK377.out)) : gb378 ≠ gb377)); clear BK376; clear BK377; clear HB; have BK376 := n0_; have BK377 := n1_; have HB := n2_; have BK378 := n3_; have GW378 := n4_; have GE378 := n5_; have NB376_378 := n6_; have NB378_376 := n7_; have NB377_378 := n8_; have NB378_377 := n9_; clear n0_ n1_ n2_ n3_ n4_ n5_ n6_ n7_ n8_ n9_; clear hb hbox hg; have hnb7 := NB376_377.out; have hnc7 := NB377_376.out; have hnb8 := NB376_378.out; have hnc8 := NB378_376.out; have hcz9_0 : w6.cell? ⟨gb376, 0, none⟩ = some (.int .i64 a0_0) := (blk_cell BK376.out 0).trans rfl; have hcz9_1 : w6.cell? ⟨gb376, 1, none⟩ = some (.int .i64 a0_1) := (blk_cell BK376.out 1).trans rfl; have hfz9_0 := blk_frozen BK376.out 0; have hfz9_1 := blk_frozen BK376.out 1; have hnb10 := NB377_378.out; have hnc10 := NB378_377.out; have hcz11_0 : w6.cell? ⟨gb377, 0, none⟩ = some (.int .i64 a1_0) := (blk_cell BK377.out 0).trans rfl; have hcz11_1 : w6.cell? ⟨gb377, 1, none⟩ = some (.int .i64 a1_1) := (blk_cell BK377.out 1).trans rfl; have hfz11_0 := blk_frozen BK377.out 0; have hfz11_1 := blk_frozen BK377.out 1) | ((with_reducible refine gate_callee (f := 34) rfl ?_); refine goesL_ (some 21) rfl rfl Try.func34 (by kernel_rfl) rfl #[.int .i64 (wrap64 ((wrap64 (a0_0 * a1_1)) - (wrap64 (a1_0 * a0_1)))), .int .i64 (wrap64 (a0_1 * a1_1))] rfl (by (try simp only [List.map_toArray, List.map_cons, List.map_nil]); first | done | rfl | (simp only [List.length_drop, List.length_take]; rfl)) ?_; (with_reducible refine (numnahref07_Reduced.calls k (wrap64 ((wrap64 (a0_0 * a1_1)) - (wrap64 (a1_0 * a0_1)))) (wrap64 (a0_1 * a1_1)) t379 t380 _ A3.out).mono ?_); rintro e w12 ⟨rfl, hb⟩; refine ⟨_, rfl, ?_⟩; have n0_ := Aside0.mk (blk_below (g := gb376) (o := .cells #[.int .i64 a0_0, .int .i64 a0_1] 23 (0, 0)) (by (with_reducible repeat (first | refine blk_drewN ?_ _ | refine blk_drew ?_ | refine blk_alloc ?_ _)); exact BK376.out) hb); have n1_ := Aside0.mk (blk_below (g := gb377) (o := .cells #[.int .i64 a1_0, .int .i64 a1_1] 23 (0, 0)) (by (with_reducible repeat (first | refine blk_drewN ?_ _ | refine blk_drew ?_ | refine blk_alloc ?_ _)); exact BK377.out) hb); have n2_ := Aside0.mk (blk_below (g := gb378) (o := .cells #[.int .i64 0, .int .i64 0] 23 (0, 0)) (by (with_reducible repeat (first | refine blk_drewN ?_ _ | refine blk_drew ?_ | refine blk_alloc ?_ _)); exact BK378.out) hb); have n3_ := Aside0.mk (below_step (by repeat (first | (with_reducible first | exact HB.out | apply below_alloc | apply pw_below_drewN | apply below_drew1 | refine below_set ?_ GE376.out | refine below_set ?_ GE377.out | refine below_set ?_ GE378.out) | exact HB.out)) hb); clear BK376; clear BK377; clear BK378; clear HB; have BK376 := n0_; have BK377 := n1_; have BK378 := n2_; have HB := n3_; clear n0_ n1_ n2_ n3_; (try clear hb); (try clear hb2); (try clear hk); (try clear hi); have hcz13_0 : w12.cell? ⟨gb378, 0, none⟩ = some (.int .i64 0) := (blk_cell BK378.out 0).trans rfl; have hcz13_1 : w12.cell? ⟨gb378, 1, none⟩ = some (.int .i64 0) := (blk_cell BK378.out 1).trans rfl; have hfz13_0 := blk_frozen BK378.out 0; have hfz13_1 := blk_frozen BK378.out 1))
 refine bodyPost_ret (results_cell_row rfl _ _ gb378 23 #[.int .i64 t379, .int .i64 t380] (0, 0) _ rfl (by (with_reducible repeat (first | refine blk_drewN ?_ _ | refine blk_drew ?_ | refine blk_alloc ?_ _)); refine blk_put (cs := #[.int .i64 t379, .int .i64 0]) ?_ 1 _ rfl; (with_reducible repeat (first | refine blk_drewN ?_ _ | refine blk_drew ?_ | refine blk_alloc ?_ _)); refine blk_put (cs := #[.int .i64 0, .int .i64 0]) ?_ 0 _ rfl; (with_reducible repeat (first | refine blk_drewN ?_ _ | refine blk_drew ?_ | refine blk_alloc ?_ _)); exact BK378.out) Try.underlying23 rfl (by kernel_rfl)) rfl ?_
 exact ⟨by first | rfl | (simp [errW_none, errW_some] <;> rfl) | (simp [*, errW_none, errW_some] <;> rfl), by repeat (first | (with_reducible first | exact HB.out | apply below_alloc | apply pw_below_drewN | apply below_drew1 | refine below_set ?_ GE376.out | refine below_set ?_ GE377.out | refine below_set ?_ GE378.out) | exact HB.out)⟩
end Go.Proofs.Ytjohcjfmlhihbaa.G

/- ### F67 -/
namespace Go.Proofs.Ytjohcjfmlhihbaa.G
open Go.RowKit Go.Proofs.YtjohcjfmlhihbaaW.PrintWords Go.Proofs.YtjohcjfmlhihbaaW.PrintLast Go.Proofs.YtjohcjfmlhihbaaW.PrintMore
attribute [local go_sem] cond_true cond_false fld23_0 fld23_1 fld45_0 fld45_1 fld109_0 fld109_1 fld94_0 fld94_1 max2_int min2_int max_two min_two max_three min_three max_four min_four   -- for this text's walks alone
set_option linter.unusedVariables false
set_option linter.unusedSimpArgs false
def numnahref07_Half.f (k : Nat) (a0_0 : Int) (a0_1 : Int) : Option (Int × Int) := (numnahref07_Reduced.f k a0_0 (wrap64 (2 * a0_1))).bind fun bt396 => (some (bt396.1, bt396.2))
theorem numnahref07_Half.mono : ∀ a0 a1 k, LeO (numnahref07_Half.f k a0 a1) (numnahref07_Half.f (k + 1) a0 a1) := by
 intro a0 a1 k
 unfold numnahref07_Half.f
 repeat' first
   | (with_reducible exact numnahref07_Reduced.mono _ _ _)
   | (with_reducible exact LeO.refl _)
   | (with_reducible exact LeO.none _)
   | (with_reducible refine LeO.ite ?_ ?_)
   | (with_reducible refine LeO.bind ?_ (fun _ => ?_))
   | exact numnahref07_Reduced.mono _ _ _
   | exact LeO.none _
   | refine LeO.ite ?_ ?_
   | refine LeO.bind ?_ (fun _ => ?_)
set_option maxHeartbeats 8000000 in
set_option maxRecDepth 100000 in
theorem numnahref07_Half.calls (k : Nat) (a0_0 : Int) (a0_1 : Int) (r1 : Int) (r2 : Int) (w : World) (h : numnahref07_Half.f k a0_0 a0_1 = some (r1, r2)) :
  Calls Try.prog 67 #[.agg #[.int .i64 a0_0, .int .i64 a0_1]] w fun e w' => e = .returned (.agg #[.int .i64 r1, .int .i64 r2]) ∧ Below w.heap.size w w' := by
 have hu23 := Try.underlying23
 have HB := Aside0.mk (Below.refl w.heap.size w)
 have H : ((numnahref07_Reduced.f k a0_0 (wrap64 (2 * a0_1))).bind fun bt396 => (some (bt396.1, bt396.2))) = some (r1, r2) := h
 clear h
 replace H := Option.bind_eq_some_iff.mp H
 obtain ⟨⟨t396, t397⟩, A20, H⟩ := H
 replace H : (some (t396, t397)) = some (r1, r2) := H
 have A2 := Aside0.mk A20
 clear A20
 simp only [Option.some.injEq, Prod.mk.injEq] at H
 obtain ⟨rfl, rfl⟩ := H
 go_enter Try.func67, Try.ntmps67
 go_wp2_with (first | ((with_reducible refine gate_dst (N := 1) rfl ?_); refine box_event ?hg (N := 1) ?hd (cs := #[.int .i64 a0_0, .int .i64 a0_1]) (t := 23) ?hr ?_; (case hd => rfl); (case hg => rfl); (case hr => first | (go_simp; done) | (go_simp; rfl)); intro gb394 hg w3 hbox hb; have n0_ := Aside0.mk (below_step (by repeat (first | (with_reducible first | exact HB.out | apply below_alloc | apply pw_below_drewN | apply below_drew1) | exact HB.out)) hb); have n1_ := Aside0.mk (hbox); have n2_ := Aside0.mk ((by rw [hg]; exact (below_size (by repeat (first | (with_reducible first | exact HB.out | apply below_alloc | apply pw_below_drewN | apply below_drew1) | exact HB.out))) : w.heap.size ≤ gb394)); have n3_ := Aside0.mk ((by rw [hg]; exact (below_size (by repeat (first | (with_reducible first | exact HB.out | apply below_alloc | apply pw_below_drewN | apply below_drew1) | exact HB.out))) : w.heap.size ≤ gb394)); clear HB; have HB := n0_; have BK394 := n1_; have GW394 := n2_; have GE394 := n3_; clear n0_ n1_ n2_ n3_; clear hb hbox hg) | ((with_reducible refine gate_dst (N := 2) rfl ?_); refine box_event ?hg (N := 2) ?hd (cs := #[.int .i64 0, .int .i64 0]) (t := 23) ?hr ?_; (case hd => rfl); (case hg => rfl); (case hr => first | (go_simp; done) | (go_simp; rfl)); intro gb395 hg w4 hbox hb; have n0_ := Aside0.mk (blk_below (g := gb394) (o := .cells #[.int .i64 a0_0, .int .i64 a0_1] 23 (0, 0)) (by (with_reducible repeat (first | refine blk_drewN ?_ _ | refine blk_drew ?_ | refine blk_alloc ?_ _)); exact BK394.out) hb); have n1_ := Aside0.mk (below_step (by repeat (first | (with_reducible first | exact HB.out | apply below_alloc | apply pw_below_drewN | apply below_drew1 | refine below_set ?_ GE394.out) | exact HB.out)) hb); have n2_ := Aside0.mk (hbox); have n3_ := Aside0.mk ((by rw [hg]; exact (below_size (by repeat (first | (with_reducible first | exact HB.out | apply below_alloc | apply pw_below_drewN | apply below_drew1 | refine below_set ?_ GE394.out) | exact HB.out))) : w.heap.size ≤ gb395)); have n4_ := Aside0.mk ((by rw [hg]; exact (below_size (by repeat (first | (with_reducible first | exact HB.out | apply below_alloc | apply pw_below_drewN | apply below_drew1 | refine below_set ?_ GE394.out) | exact HB.out))) : w.heap.size ≤ gb395)); have n5_ := Aside0.mk ((by rw [hg]; exact Nat.ne_of_lt (blk_lt (g := gb394) (o := .cells #[.int .i64 a0_0, .int .i64 a0_1] 23 (0, 0)) (by (with_reducible repeat (first | refine blk_drewN ?_ _ | refine blk_drew ?_ | refine blk_alloc ?_ _)); exact BK394.out)) : gb394 ≠ gb395)); have n6_ := Aside0.mk ((by rw [hg]; exact Nat.ne_of_gt (blk_lt (g := gb394) (o := .cells #[.int .i64 a0_0, .int .i64 a0_1] 23 (0, 0)) (by (with_reducible repeat (first | refine blk_drewN ?_ _ | refine blk_drew ?_ | refine blk_alloc ?_ _)); exact BK394.out)) : gb395 ≠ gb394)); clear BK394; clear HB; have BK394 := n0_; have HB := n1_; have BK395 := n2_; have GW395 := n3_; have GE395 := n4_; have NB394_395 := n5_; have NB395_394 := n6_; clear n0_ n1_ n2_ n3_ n4_ n5_ n6_; clear hb hbox hg; have hnb5 := NB394_395.out; have hnc5 := NB395_394.out; have hcz6_0 : w4.cell? ⟨gb394, 0, none⟩ = some (.int .i64 a0_0) := (blk_cell BK394.out 0).trans rfl; have hcz6_1 : w4.cell? ⟨gb394, 1, none⟩ = some (.int .i64 a0_1) := (blk_cell BK394.out 1).trans rfl; have hfz6_0 := blk_frozen BK394.out 0; have hfz6_1 := blk_frozen BK394.out 1) | ((with_reducible refine gate_callee (f := 34) rfl ?_); refine goesL_ (some 8) rfl rfl Try.func34 (by kernel_rfl) rfl #[.int .i64 a0_0, .int .i64 (wrap64 (2 * a0_1))] rfl (by (try simp only [List.map_toArray, List.map_cons, List.map_nil]); first | done | rfl | (simp only [List.length_drop, List.length_take]; rfl)) ?_; (with_reducible refine (numnahref07_Reduced.calls k a0_0 (wrap64 (2 * a0_1)) t396 t397 _ A2.out).mono ?_); rintro e w7 ⟨rfl, hb⟩; refine ⟨_, rfl, ?_⟩; have n0_ := Aside0.mk (blk_below (g := gb394) (o := .cells #[.int .i64 a0_0, .int .i64 a0_1] 23 (0, 0)) (by (with_reducible repeat (first | refine blk_drewN ?_ _ | refine blk_drew ?_ | refine blk_alloc ?_ _)); exact BK394.out) hb); have n1_ := Aside0.mk (blk_below (g := gb395) (o := .cells #[.int .i64 0, .int .i64 0] 23 (0, 0)) (by (with_reducible repeat (first | refine blk_drewN ?_ _ | refine blk_drew ?_ | refine blk_alloc ?_ _)); exact BK395.out) hb); have n2_ := Aside0.mk (below_step (by repeat (first | (with_reducible first | exact HB.out | apply below_alloc | apply pw_below_drewN | apply below_drew1 | refine below_set ?_ GE394.out | refine below_set ?_ GE395.out) | exact HB.out)) hb); clear BK394; clear BK395; clear HB; have BK394 := n0_; have BK395 := n1_; have HB := n2_; clear n0_ n1_ n2_; (try clear hb); (try clear hb2); (try clear hk); (try clear hi); have hcz8_0 : w7.cell? ⟨gb395, 0, none⟩ = some (.int .i64 0) := (blk_cell BK395.out 0).trans rfl; have hcz8_1 : w7.cell? ⟨gb395, 1, none⟩ = some (.int .i64 0) := (blk_cell BK395.out 1).trans rfl; have hfz8_0 := blk_frozen BK395.out 0; have hfz8_1 := blk_frozen BK395.out 1))
 refine bodyPost_ret (results_cell_row rfl _ _ gb395 23 #[.int .i64 t396, .int .i64 t397] (0, 0) _ rfl (by (with_reducible repeat (first | refine blk_drewN ?_ _ | refine blk_drew ?_ | refine blk_alloc ?_ _)); refine blk_put (cs := #[.int .i64 t396, .int .i64 0]) ?_ 1 _ rfl; (with_reducible repeat (first | refine blk_drewN ?_ _ | refine blk_drew ?_ | refine blk_alloc ?_ _)); refine blk_put (cs := #[.int .i64 0, .int .i64 0]) ?_ 0 _ rfl; (with_reducible repeat (first | refine blk_drewN ?_ _ | refine blk_drew ?_ | refine blk_alloc ?_ _)); exact BK395.out) Try.underlying23 rfl (by kernel_rfl)) rfl ?_
 exact ⟨by first | rfl | (simp [errW_none, errW_some] <;> rfl) | (simp [*, errW_none, errW_some] <;> rfl), by repeat (first | (with_reducible first | exact HB.out | apply below_alloc | apply pw_below_drewN | apply below_drew1 | refine below_set ?_ GE394.out | refine below_set ?_ GE395.out) | exact HB.out)⟩
end Go.Proofs.Ytjohcjfmlhihbaa.G

/- ### F69 -/
namespace Go.Proofs.Ytjohcjfmlhihbaa.G
open Go.RowKit Go.Proofs.YtjohcjfmlhihbaaW.PrintWords Go.Proofs.YtjohcjfmlhihbaaW.PrintLast Go.Proofs.YtjohcjfmlhihbaaW.PrintMore
attribute [local go_sem] cond_true cond_false fld23_0 fld23_1 fld45_0 fld45_1 fld109_0 fld109_1 fld94_0 fld94_1 max2_int min2_int max_two min_two max_three min_three max_four min_four   -- for this text's walks alone
set_option linter.unusedVariables false
set_option linter.unusedSimpArgs false
def numnahref07_Within.f (k : Nat) (a0_0 : Int) (a0_1 : Int) (a1 : Int) (a2 : Int) (a3 : Int) : Option (Bool) := if a0_1 ≥ 1 then (if a0_1 ≤ a3 then (if a0_0 ≥ a1 then (if a0_0 ≤ a2 then ((numnahref07_gcd.f k (mx a0_0 (wrap64 (-a0_0))) a0_1).bind fun t452 => (some (t452 == 1))) else (some false)) else (some false)) else (some false)) else (some false)
theorem numnahref07_Within.mono : ∀ a0 a1 a2 a3 a4 k, LeO (numnahref07_Within.f k a0 a1 a2 a3 a4) (numnahref07_Within.f (k + 1) a0 a1 a2 a3 a4) := by
 intro a0 a1 a2 a3 a4 k
 unfold numnahref07_Within.f
 repeat' first
   | (with_reducible exact numnahref07_gcd.mono _ _ _)
   | (with_reducible exact LeO.refl _)
   | (with_reducible exact LeO.none _)
   | (with_reducible refine LeO.ite ?_ ?_)
   | (with_reducible refine LeO.bind ?_ (fun _ => ?_))
   | exact numnahref07_gcd.mono _ _ _
   | exact LeO.none _
   | refine LeO.ite ?_ ?_
   | refine LeO.bind ?_ (fun _ => ?_)
set_option maxHeartbeats 8000000 in
set_option maxRecDepth 100000 in
theorem numnahref07_Within.calls (k : Nat) (a0_0 : Int) (a0_1 : Int) (a1 : Int) (a2 : Int) (a3 : Int) (r : Bool) (w : World) (h : numnahref07_Within.f k a0_0 a0_1 a1 a2 a3 = some r) :
  Calls Try.prog 69 #[.agg #[.int .i64 a0_0, .int .i64 a0_1], .int .i64 a1, .int .i64 a2, .int .i64 a3] w fun e w' => e = .returned (.bool r) ∧ Below w.heap.size w w' := by
 have hu23 := Try.underlying23
 have HB := A_ (Below.refl w.heap.size w)
 have H : (if a0_1 ≥ 1 then (if a0_1 ≤ a3 then (if a0_0 ≥ a1 then (if a0_0 ≤ a2 then ((numnahref07_gcd.f k (mx a0_0 (wrap64 (-a0_0))) a0_1).bind fun t452 => (some (t452 == 1))) else (some false)) else (some false)) else (some false)) else (some false)) = some r := h
 clear h
 by_cases c5 : a0_1 ≥ 1
 ·rw [if_pos c5] at H
  have c5b0 : decide (1 ≤ a0_1) = true := decide_eq_true c5
  clear c5
  by_cases c6 : a0_1 ≤ a3
  ·rw [if_pos c6] at H
   have c6b0 : decide (a0_1 ≤ a3) = true := decide_eq_true c6
   clear c6
   by_cases c7 : a0_0 ≥ a1
   ·rw [if_pos c7] at H
    have c7b0 : decide (a1 ≤ a0_0) = true := decide_eq_true c7
    clear c7
    by_cases c8 : a0_0 ≤ a2
    ·rw [if_pos c8] at H
     have c8b0 : decide (a0_0 ≤ a2) = true := decide_eq_true c8
     clear c8
     obtain ⟨ji9, hji9⟩ : ∃ j_ : Int, (mx a0_0 (wrap64 (-a0_0))) = j_ := ⟨_, rfl⟩
     replace H : ((numnahref07_gcd.f k (ji9) a0_1).bind fun t452 => (some (t452 == 1))) = some r := by first | (rw [hji9] at H; exact H) | (simp only [hji9] at H ⊢; exact H)
     have hji9_ : (if a0_0 < (wrap64 (-a0_0)) then (wrap64 (-a0_0)) else a0_0) = ji9 := hji9
     replace H := Option.bind_eq_some_iff.mp H
     obtain ⟨t452, A100, H⟩ := H
     replace H : (some (t452 == 1)) = some r := H
     have A10 := A_ A100
     clear A100
     obtain rfl := Option.some.inj H
     go_enter Try.func69, Try.ntmps69
     go_wp2_with (first | ((with_reducible refine gate_dst (N := 4) rfl ?_); (try (refine gate_guard (by rfl) ?_; dsimp only)); refine box_event ?hg (N := 4) ?hd (cs := #[.int .i64 a0_0, .int .i64 a0_1]) (t := 23) ?hr ?_; (case hd => rfl); (case hg => rfl); (case hr => first | (go_simp; done) | (go_simp; rfl)); intro gb451 hg w11 hbox hb; have BK451 := A_ hbox; have GW451 := gw hg HB; have GE451 := GW451; replace HB := bB HB hb; clear hb hbox hg; have hcz12_0 : w11.cell? ⟨gb451, 0, none⟩ = some (.int .i64 a0_0) := cz BK451 0; have hcz12_1 : w11.cell? ⟨gb451, 1, none⟩ = some (.int .i64 a0_1) := cz BK451 1; have hfz12_0 := blk_frozen BK451.out 0; have hfz12_1 := blk_frozen BK451.out 1) | (go_at_call 73; (with_reducible refine (numnahref07_gcd.calls k ji9 a0_1 t452 _ A10.out).mono ?_); rintro e w' ⟨rfl, ⟨nd, rfl⟩⟩))
     go_ret
     exact ⟨by first | rfl | (simp [errW_none, errW_some] <;> rfl) | (simp only [← hji9]; first | rfl | (simp [errW_none, errW_some] <;> rfl)) | (simp [*, errW_none, errW_some] <;> rfl), by repeat (first | (with_reducible first | exact HB.out | apply below_alloc | apply pw_below_drewN | apply below_drew1 | refine below_set ?_ GE451.out) | exact HB.out)⟩
    ·rw [if_neg c8] at H
     have c8b0 : decide (a0_0 ≤ a2) = false := decide_eq_false c8
     clear c8
     obtain rfl := Option.some.inj H
     go_enter Try.func69, Try.ntmps69
     go_wp2_with (first | ((with_reducible refine gate_dst (N := 4) rfl ?_); (try (refine gate_guard (by rfl) ?_; dsimp only)); refine box_event ?hg (N := 4) ?hd (cs := #[.int .i64 a0_0, .int .i64 a0_1]) (t := 23) ?hr ?_; (case hd => rfl); (case hg => rfl); (case hr => first | (go_simp; done) | (go_simp; rfl)); intro gb451 hg w13 hbox hb; have BK451 := A_ hbox; have GW451 := gw hg HB; have GE451 := GW451; replace HB := bB HB hb; clear hb hbox hg; have hcz14_0 : w13.cell? ⟨gb451, 0, none⟩ = some (.int .i64 a0_0) := cz BK451 0; have hcz14_1 : w13.cell? ⟨gb451, 1, none⟩ = some (.int .i64 a0_1) := cz BK451 1; have hfz14_0 := blk_frozen BK451.out 0; have hfz14_1 := blk_frozen BK451.out 1))
     go_ret
     exact ⟨rfl, by repeat (first | (with_reducible first | exact HB.out | apply below_alloc | apply pw_below_drewN | apply below_drew1 | refine below_set ?_ GE451.out) | exact HB.out)⟩
   ·rw [if_neg c7] at H
    have c7b0 : decide (a1 ≤ a0_0) = false := decide_eq_false c7
    clear c7
    obtain rfl := Option.some.inj H
    go_enter Try.func69, Try.ntmps69
    go_wp2_with (first | ((with_reducible refine gate_dst (N := 4) rfl ?_); (try (refine gate_guard (by rfl) ?_; dsimp only)); refine box_event ?hg (N := 4) ?hd (cs := #[.int .i64 a0_0, .int .i64 a0_1]) (t := 23) ?hr ?_; (case hd => rfl); (case hg => rfl); (case hr => first | (go_simp; done) | (go_simp; rfl)); intro gb451 hg w15 hbox hb; have BK451 := A_ hbox; have GW451 := gw hg HB; have GE451 := GW451; replace HB := bB HB hb; clear hb hbox hg; have hcz16_0 : w15.cell? ⟨gb451, 0, none⟩ = some (.int .i64 a0_0) := cz BK451 0; have hcz16_1 : w15.cell? ⟨gb451, 1, none⟩ = some (.int .i64 a0_1) := cz BK451 1; have hfz16_0 := blk_frozen BK451.out 0; have hfz16_1 := blk_frozen BK451.out 1))
    go_ret
    exact ⟨rfl, by repeat (first | (with_reducible first | exact HB.out | apply below_alloc | apply pw_below_drewN | apply below_drew1 | refine below_set ?_ GE451.out) | exact HB.out)⟩
  ·rw [if_neg c6] at H
   have c6b0 : decide (a0_1 ≤ a3) = false := decide_eq_false c6
   clear c6
   obtain rfl := Option.some.inj H
   go_enter Try.func69, Try.ntmps69
   go_wp2_with (first | ((with_reducible refine gate_dst (N := 4) rfl ?_); (try (refine gate_guard (by rfl) ?_; dsimp only)); refine box_event ?hg (N := 4) ?hd (cs := #[.int .i64 a0_0, .int .i64 a0_1]) (t := 23) ?hr ?_; (case hd => rfl); (case hg => rfl); (case hr => first | (go_simp; done) | (go_simp; rfl)); intro gb451 hg w17 hbox hb; have BK451 := A_ hbox; have GW451 := gw hg HB; have GE451 := GW451; replace HB := bB HB hb; clear hb hbox hg; have hcz18_0 : w17.cell? ⟨gb451, 0, none⟩ = some (.int .i64 a0_0) := cz BK451 0; have hcz18_1 : w17.cell? ⟨gb451, 1, none⟩ = some (.int .i64 a0_1) := cz BK451 1; have hfz18_0 := blk_frozen BK451.out 0; have hfz18_1 := blk_frozen BK451.out 1))
   go_ret
   exact ⟨rfl, by repeat (first | (with_reducible first | exact HB.out | apply below_alloc | apply pw_below_drewN | apply below_drew1 | refine below_set ?_ GE451.out) | exact HB.out)⟩
 ·rw [if_neg c5] at H
  have c5b0 : decide (1 ≤ a0_1) = false := decide_eq_false c5
  clear c5
  obtain rfl := Option.some.inj H
  go_enter Try.func69, Try.ntmps69
  go_wp2_with (first | ((with_reducible refine gate_dst (N := 4) rfl ?_); (try (refine gate_guard (by rfl) ?_; dsimp only)); refine box_event ?hg (N := 4) ?hd (cs := #[.int .i64 a0_0, .int .i64 a0_1]) (t := 23) ?hr ?_; (case hd => rfl); (case hg => rfl); (case hr => first | (go_simp; done) | (go_simp; rfl)); intro gb451 hg w19 hbox hb; have BK451 := A_ hbox; have GW451 := gw hg HB; have GE451 := GW451; replace HB := bB HB hb; clear hb hbox hg; have hcz20_0 : w19.cell? ⟨gb451, 0, none⟩ = some (.int .i64 a0_0) := cz BK451 0; have hcz20_1 : w19.cell? ⟨gb451, 1, none⟩ = some (.int .i64 a0_1) := cz BK451 1; have hfz20_0 := blk_frozen BK451.out 0; have hfz20_1 := blk_frozen BK451.out 1))
  go_ret
  exact ⟨rfl, by repeat (first | (with_reducible first | exact HB.out | apply below_alloc | apply pw_below_drewN | apply below_drew1 | refine below_set ?_ GE451.out) | exact HB.out)⟩
end Go.Proofs.Ytjohcjfmlhihbaa.G

/- ### Ea -/
namespace Go.Proofs.Ytjohcjfmlhihbaa.P
open Go Go.RowKit Go.Proofs.Ytjohcjfmlhihbaa.G
open Go.Proofs.YtjohcjfmlhihbaaW.PrintWords Go.Proofs.YtjohcjfmlhihbaaW.PrintMore
theorem wrap_id {x : Int} (h0 : -9223372036854775808 ≤ x) (h1 : x ≤ 9223372036854775807) : wrap64 x = x := by unfold wrap64; omega
theorem wrap_abs {x : Int} (h : x.natAbs < 9223372036854775808) : wrap64 x = x := by unfold wrap64; omega
theorem wrap_nat {x : Nat} (h : x < 9223372036854775808) : wrap64 (x : Int) = (x : Int) := by unfold wrap64; omega
theorem ref_gcd_l : ∀ k a b, numnahref07_gcd.l0 k a b = shares_gcd.l0 k a b
  | 0, _, _ => rfl
  | k + 1, a, b => by rw [numnahref07_gcd.l0, shares_gcd.l0, ref_gcd_l k]
theorem ref_gcd (k : Nat) (a b : Int) : numnahref07_gcd.f k a b = shares_gcd.f k a b := ref_gcd_l k a b
theorem ref_reduced (k : Nat) (a b : Int) : numnahref07_Reduced.f k a b = shares_frac.f k a b := by unfold numnahref07_Reduced.f shares_frac.f; rw [ref_gcd]
theorem gcd_l0 : ∀ (k a b : Nat), b < k → shares_gcd.l0 k (a : Int) (b : Int) = some ((Nat.gcd a b : Nat) : Int)
  | k + 1, a, b, h => by
    rw [shares_gcd.l0]
    by_cases h0 : (b : Int) > 0
    · rw [if_pos h0, if_neg (by omega)]
      have hm : Int.tmod (a : Int) (b : Int) = ((a % b : Nat) : Int) := by
        rw [Int.tmod_eq_emod_of_nonneg (by omega)]; rfl
      have hb : 0 < b := by omega
      have hlt := Nat.mod_lt a hb
      rw [hm, gcd_l0 k b (a % b) (by omega), Nat.gcd_comm a b, Nat.gcd_rec b a, Nat.gcd_comm]
    · rw [if_neg h0]
      have hb : b = 0 := by omega
      subst hb
      rw [Nat.gcd_zero_right]
theorem ev_gcd (a b : Nat) : Ev (fun k => shares_gcd.f k (a : Int) (b : Int)) ((Nat.gcd a b : Nat) : Int) := ⟨b + 1, fun k hk => gcd_l0 k a b (by omega)⟩
theorem mx_abs {n : Int} (h : n.natAbs < 9223372036854775808) : mx n (wrap64 (-n)) = (n.natAbs : Int) := by
  rw [wrap_abs (by rw [Int.natAbs_neg]; exact h)]
  unfold mx
  split <;> omega
theorem ev_frac (n : Int) (d : Nat) (hd : 0 < d) (hn : n.natAbs < 9223372036854775808) (hd2 : d < 9223372036854775808) : Ev (fun k => shares_frac.f k n (d : Int)) ((mkRat n d).num, ((mkRat n d).den : Int)) := by
  unfold shares_frac.f
  rw [mx_abs hn]
  refine Ev.bind (ev_gcd n.natAbs d) ?_
  have hg : Nat.gcd n.natAbs d ≠ 0 := fun e => by have := Nat.eq_zero_of_gcd_eq_zero_right e; omega
  refine Ev.congr (fun k => if_neg (by omega)) ?_
  rw [red_num n (by omega), red_den n (by omega)]
  have h1 := num_le n d
  have h2 := den_le (n := n) (d := d) (by omega)
  rw [wrap_abs (by omega), wrap_nat (by omega)]
  exact Ev.now _
theorem ev_add {p q : Rat} (h : Fits p q) : Ev (fun k => shares_add.f k p.num (p.den : Int) q.num (q.den : Int)) ((p + q).num, ((p + q).den : Int)) := by
  unfold shares_add.f
  refine Ev.bind (ev_gcd p.den q.den) ?_
  have hp := den_pos p
  have hq := den_pos q
  have h1 := h.num
  have h2 := h.den
  obtain ⟨g, hg⟩ : ∃ g, g = Nat.gcd p.den q.den := ⟨_, rfl⟩
  have hs := add_small p q g hg
  have g1 : g ∣ p.den := by rw [hg]; exact Nat.gcd_dvd_left _ _
  have g2 : g ∣ q.den := by rw [hg]; exact Nat.gcd_dvd_right _ _
  have g0 : 0 < g := Nat.pos_of_dvd_of_pos g1 hp
  rw [← hg]
  refine Ev.congr (fun k => if_neg (by omega)) ?_
  rw [tdiv_nat, tdiv_nat]
  have hpd : p.den / g ≤ p.den := Nat.div_le_self _ _
  have hqd : q.den / g ≤ q.den := Nat.div_le_self _ _
  have hp1 : 1 ≤ p.den / g := Nat.div_pos (Nat.le_of_dvd hp g1) g0
  have hpD : p.den ≤ p.den * q.den := Nat.le_mul_of_pos_right _ hq
  have hqD : q.den ≤ p.den * q.den := Nat.le_mul_of_pos_left _ hp
  rw [wrap_nat (by omega : q.den / g < _), wrap_nat (by omega : p.den / g < _)]
  have a1 : (p.num * ((q.den / g : Nat) : Int)).natAbs ≤ p.num.natAbs * q.den := by
    rw [Int.natAbs_mul, Int.natAbs_natCast]; exact Nat.mul_le_mul_left _ hqd
  have a2 : (q.num * ((p.den / g : Nat) : Int)).natAbs ≤ q.num.natAbs * p.den := by
    rw [Int.natAbs_mul, Int.natAbs_natCast]; exact Nat.mul_le_mul_left _ hpd
  have a3 : p.den / g * q.den ≤ p.den * q.den := Nat.mul_le_mul_right _ hpd
  rw [wrap_abs (by omega : (p.num * ((q.den / g : Nat) : Int)).natAbs < _), wrap_abs (by omega : (q.num * ((p.den / g : Nat) : Int)).natAbs < _)]
  have a4 := Int.natAbs_add_le (p.num * ((q.den / g : Nat) : Int)) (q.num * ((p.den / g : Nat) : Int))
  rw [wrap_abs (by omega : (p.num * ((q.den / g : Nat) : Int) + q.num * ((p.den / g : Nat) : Int)).natAbs < _)]
  have e : ((p.den / g : Nat) : Int) * (q.den : Int) = ((p.den / g * q.den : Nat) : Int) := by push_cast; rfl
  rw [e, wrap_nat (by omega : p.den / g * q.den < _)]
  have hpos : 0 < p.den / g * q.den := Nat.mul_pos hp1 hq
  refine Ev.bind (ev_frac _ _ hpos (by omega) (by omega)) ?_
  rw [hs]
  exact Ev.now _
theorem ev_minus {p q : Rat} (h : Fits p q) : Ev (fun k => shares_minus.f k p.num (p.den : Int) q.num (q.den : Int)) ((p - q).num, ((p - q).den : Int)) := by
  unfold shares_minus.f
  have h1 := h.num
  have h2 := den_pos p
  have h3 : q.num.natAbs ≤ q.num.natAbs * p.den := Nat.le_mul_of_pos_right _ h2
  have e : wrap64 (-q.num) = (-q).num := by rw [Rat.neg_num, wrap_abs (by rw [Int.natAbs_neg]; omega)]
  rw [e]
  refine Ev.bind (a := ((p + -q).num, ((p + -q).den : Int))) ?_ (by rw [sub_neg]; exact Ev.now _)
  have := ev_add (p := p) (q := -q) h.neg
  rw [Rat.neg_den] at this
  exact this
theorem ev_over (q : Rat) {n : Nat} (hn : 0 < n) (h1 : q.num.natAbs < 9223372036854775808) (h2 : q.den * n < 9223372036854775808) : Ev (fun k => shares_over.f k q.num (q.den : Int) (n : Int)) ((q / (n : Rat)).num, ((q / (n : Rat)).den : Int)) := by
  unfold shares_over.f
  have e : (q.den : Int) * (n : Int) = ((q.den * n : Nat) : Int) := by push_cast; rfl
  rw [e, wrap_nat h2]
  refine Ev.bind (ev_frac _ _ (Nat.mul_pos (den_pos q) hn) h1 h2) ?_
  rw [mk_over q hn]
  exact Ev.now _
theorem ev_times (q : Rat) {n : Int} (h1 : (q.num * n).natAbs < 9223372036854775808) (h2 : q.den < 9223372036854775808) : Ev (fun k => shares_times.f k q.num (q.den : Int) n) ((q * (n : Rat)).num, ((q * (n : Rat)).den : Int)) := by
  unfold shares_times.f
  rw [wrap_abs h1]
  refine Ev.bind (ev_frac _ _ (den_pos q) h1 h2) ?_
  rw [mk_times]
  exact Ev.now _
/-- How two numbers compare. -/
def cmpR (p q : Rat) : Int := if p < q then -1 else if q < p then 1 else 0
theorem cmpR_le (p q : Rat) : cmpR p q ≤ 0 ↔ p ≤ q := by
  unfold cmpR
  split
  · constructor <;> intro _ <;> grind
  · split
    · constructor <;> intro _ <;> grind
    · constructor <;> intro _ <;> grind
theorem cmpR_lt (p q : Rat) : cmpR p q < 0 ↔ p < q := by
  unfold cmpR
  split
  · constructor <;> intro _ <;> grind
  · split
    · constructor <;> intro _ <;> grind
    · constructor <;> intro _ <;> grind
theorem cmpR_gt (p q : Rat) : cmpR p q > 0 ↔ q < p := by
  unfold cmpR
  split
  · constructor <;> intro _ <;> grind
  · split
    · constructor <;> intro _ <;> grind
    · constructor <;> intro _ <;> grind
theorem ev_compare {p q : Rat} (h : Fits p q) : Ev (fun k => shares_compare.f k p.num (p.den : Int) q.num (q.den : Int)) (cmpR p q) := by
  unfold shares_compare.f
  refine Ev.bind (ev_minus h) ?_
  unfold cmp_Compare_int.f cmp_isNaN_int.f
  simp only [Option.bind_some, bne_self_eq_false]
  rw [if_neg (by decide), if_neg (by decide)]
  unfold cmpR
  by_cases h1 : p < q
  · rw [if_pos ((sign_lt p q).2 h1), if_pos h1]; exact Ev.now _
  · rw [if_neg (fun e => h1 ((sign_lt p q).1 e)), if_neg h1]
    by_cases h2 : q < p
    · rw [if_pos ((sign_gt p q).2 h2), if_pos h2]; exact Ev.now _
    · rw [if_neg (fun e => h2 ((sign_gt p q).1 e)), if_neg h2]; exact Ev.now _
theorem ev_smaller {p q : Rat} (h : Fits p q) : Ev (fun k => shares_smaller.f k p.num (p.den : Int) q.num (q.den : Int)) ((min p q).num, ((min p q).den : Int)) := by
  unfold shares_smaller.f
  refine Ev.bind (ev_compare h) ?_
  rw [Rat.min_def]
  by_cases hpq : p ≤ q
  · rw [if_pos ((cmpR_le p q).2 hpq), if_pos hpq]; exact Ev.now _
  · rw [if_neg (fun e => hpq ((cmpR_le p q).1 e)), if_neg hpq]; exact Ev.now _
theorem mk_add (p q : Rat) : mkRat (p.num * (q.den : Int) + q.num * (p.den : Int)) (p.den * q.den) = p + q := (Rat.add_def' p q).symm
theorem ev_radd {p q : Rat} (h : Fits p q) : Ev (fun k => numnahref07_Add.f k p.num (p.den : Int) q.num (q.den : Int)) ((p + q).num, ((p + q).den : Int)) := by
  unfold numnahref07_Add.f
  have hp := den_pos p
  have hq := den_pos q
  have h1 := h.num
  have h2 := h.den
  have a1 : (p.num * (q.den : Int)).natAbs = p.num.natAbs * q.den := by rw [Int.natAbs_mul, Int.natAbs_natCast]
  have a2 : (q.num * (p.den : Int)).natAbs = q.num.natAbs * p.den := by rw [Int.natAbs_mul, Int.natAbs_natCast]
  have a4 := Int.natAbs_add_le (p.num * (q.den : Int)) (q.num * (p.den : Int))
  rw [wrap_abs (by omega : (p.num * (q.den : Int)).natAbs < _), wrap_abs (by omega : (q.num * (p.den : Int)).natAbs < _), wrap_abs (by omega : (p.num * (q.den : Int) + q.num * (p.den : Int)).natAbs < _)]
  have e : (p.den : Int) * (q.den : Int) = ((p.den * q.den : Nat) : Int) := by push_cast; rfl
  rw [e, wrap_nat h2]
  simp only [ref_reduced]
  refine Ev.bind (ev_frac _ _ (Nat.mul_pos hp hq) (by omega) h2) ?_
  rw [mk_add]
  exact Ev.now _
theorem ev_rsub {p q : Rat} (h : Fits p q) : Ev (fun k => numnahref07_Sub.f k p.num (p.den : Int) q.num (q.den : Int)) ((p - q).num, ((p - q).den : Int)) := by
  unfold numnahref07_Sub.f
  have hp := den_pos p
  have hq := den_pos q
  have h1 := h.num
  have h2 := h.den
  have a1 : (p.num * (q.den : Int)).natAbs = p.num.natAbs * q.den := by rw [Int.natAbs_mul, Int.natAbs_natCast]
  have a2 : (q.num * (p.den : Int)).natAbs = q.num.natAbs * p.den := by rw [Int.natAbs_mul, Int.natAbs_natCast]
  have a4 : (p.num * (q.den : Int) - q.num * (p.den : Int)).natAbs ≤ (p.num * (q.den : Int)).natAbs + (q.num * (p.den : Int)).natAbs := by omega
  rw [wrap_abs (by omega : (p.num * (q.den : Int)).natAbs < _), wrap_abs (by omega : (q.num * (p.den : Int)).natAbs < _), wrap_abs (by omega : (p.num * (q.den : Int) - q.num * (p.den : Int)).natAbs < _)]
  have e : (p.den : Int) * (q.den : Int) = ((p.den * q.den : Nat) : Int) := by push_cast; rfl
  rw [e, wrap_nat h2]
  simp only [ref_reduced]
  refine Ev.bind (ev_frac _ _ (Nat.mul_pos hp hq) (by omega) h2) ?_
  have : mkRat (p.num * (q.den : Int) - q.num * (p.den : Int)) (p.den * q.den) = p - q := (Rat.sub_def' p q).symm
  rw [this]
  exact Ev.now _
theorem ev_rhalf {q : Rat} (h1 : q.num.natAbs < 9223372036854775808) (h2 : 2 * q.den < 9223372036854775808) : Ev (fun k => numnahref07_Half.f k q.num (q.den : Int)) ((q / 2).num, ((q / 2).den : Int)) := by
  unfold numnahref07_Half.f
  have e : 2 * (q.den : Int) = ((q.den * 2 : Nat) : Int) := by push_cast; omega
  rw [e, wrap_nat (by omega)]
  simp only [ref_reduced]
  refine Ev.bind (ev_frac _ _ (by have := den_pos q; omega) h1 (by omega)) ?_
  have e2 : mkRat q.num (q.den * 2) = q / 2 := by
    have := mk_over q (n := 2) (by omega)
    exact this
  rw [e2]
  exact Ev.now _
theorem rless {p q : Rat} (h : Fits p q) : numnahref07_Less.f p.num (p.den : Int) q.num (q.den : Int) = some (decide (p < q)) := by
  unfold numnahref07_Less.f
  have h1 := h.num
  have a1 : (p.num * (q.den : Int)).natAbs = p.num.natAbs * q.den := by rw [Int.natAbs_mul, Int.natAbs_natCast]
  have a2 : (q.num * (p.den : Int)).natAbs = q.num.natAbs * p.den := by rw [Int.natAbs_mul, Int.natAbs_natCast]
  rw [wrap_abs (by omega : (p.num * (q.den : Int)).natAbs < _), wrap_abs (by omega : (q.num * (p.den : Int)).natAbs < _)]
  congr 1
  rw [Bool.eq_iff_iff, decide_eq_true_iff, decide_eq_true_iff]
  exact less_iff p q
end Go.Proofs.Ytjohcjfmlhihbaa.P
