/- The statement SharesChecks of layer 7: for any pipes, users, rates and pipes that hold them, Check returns OK exactly for the fair rates, with a pipe for each user that holds it, and the specified error otherwise; proved for every input.
Conditions: none. -/
import Derived.WalkKit
import Derived.ProofKit
import Derived.OpenShut
import Derived.ShutString
import Derived.ChangeOld
import Derived.Below
import Derived.SizedLaws
import Derived.Test.YtjohcjfmlhihbaaRows
import Derived.Test.YtjohcjfmlhihbaaQChecks3
namespace Go.Proofs.Ytjohcjfmlhihbaa.sharesChecks
open Go Go.ChangeShapes Go.WideShapes Go.ChangeAt Go.RowKit Go.Proofs.Ytjohcjfmlhihbaa.Row Go.Proofs.YtjohcjfmlhihbaaW.PrintWords
set_option linter.unusedVariables false
theorem own : ownKnob Try.prog.godebug = none := by kernel_rfl
theorem laidOut : laidOutB Try.prog = true := by kernel_rfl
set_option maxRecDepth 100000 in
theorem lifted (os : Os) (started : os.Started) (H : Type) (enc : TypeId × Value → H) :
    ReturnsInHanded {} Try.checked os 10 .any (Rows.sharesChecksSpec.pre6 enc Try.prog Try.f10 Rows.sharesChecksRow.domain false) (Rows.sharesChecksSpec.post enc Try.prog Try.f10 false true false false) := by
  refine returnsInHanded_of_change_sized (C := Try.checked) own started (by kernel_rfl) Try.func10
    (ChangeSpec.witness6 (enc := enc) (C := Try.checked) false ⟨#[], #[.slice none 0 0, .slice none 0 0, .agg #[.slice none 0 0, .slice none 0 0]], []⟩ 8 (by kernel_rfl) (by kernel_rfl) (by kernel_rfl) (by kernel_rfl)) ?_
  intro W base args ds gs before hval0 hW hcnd hsz0 _
  have hval : ∀ (j : Nat) t v, Try.f10.params[j]? = some t → args[j]? = some v → Value.okWide Try.prog W .any base t v := hval0
  have hW' := hW
  obtain ⟨p, q, hA0, hV, rfl, hfz, hnd⟩ := hW
  have hA : DataW.TrodAll enc Try.prog W 0 (fun _ => true) true Try.f10.params.toList args.toList ds p := hA0
  rw [Try.params10] at hA hval
  obtain ⟨v0, vs0, d0, ds0, p0, q0, hargs, rfl, rfl, h0, r0⟩ := trodAll_cons hA
  obtain ⟨v1, vs1, d1, ds1, p1, q1, rfl, rfl, rfl, h1, r1⟩ := trodAll_cons r0
  obtain ⟨v2, vs2, d2, ds2, p2, q2, rfl, rfl, rfl, h2, r2⟩ := trodAll_cons r1
  obtain ⟨rfl, rfl, rfl⟩ := trodAll_nil r2
  obtain rfl : args = #[v0, v1, v2] := by cases args; simp_all
  obtain ⟨rfl, rfl⟩ := trodVars_none hV
  have lt0 : ∀ x ∈ p0, x.block < W.heap.size := (by obtain ⟨m, hm⟩ := h0; exact DataW.trod_lt m _ _ _ hm)
  obtain ⟨A0, l0, c0, rfl, hc0, hr0⟩ := open_list1 (hval 0 28 v0 rfl rfl) h0
  have lt1 : ∀ x ∈ p1, x.block < W.heap.size := (by obtain ⟨m, hm⟩ := h1; exact DataW.trod_lt m _ _ _ hm)
  obtain ⟨A1, l1, c1, rfl, hc1, hr1⟩ := open_users1 (hval 1 43 v1 rfl rfl) h1
  have lt2 : ∀ x ∈ p2, x.block < W.heap.size := (by obtain ⟨m, hm⟩ := h2; exact DataW.trod_lt m _ _ _ hm)
  obtain ⟨A2, l2, c2, B2, m2, e2, rfl, hc2, hw2, hr2, hd2, hs2⟩ := open_rated (hval 2 58 v2 rfl rfl) h2
  clear hA0 hval0 hsz0
  simp only [List.append_nil] at hW'
  obtain ⟨k, hk⟩ := P.checks_pure l0 l1 l2 m2
  refine (G.numnahlaw07_SharesChecks.calls k A0 c0 l0 A1 c1 l1 A2 c2 l2 B2 e2 m2 true W hr0 hc0 hr1 hc1 hr2 hc2 hs2 hd2 hk rfl).mono fun e W' ⟨he, bel⟩ => ?_
  subst he
  exact ⟨_, rfl, _, _, _, [], _, [], hW', trodAll_mk1 (shut_bool Try.underlying4 _), (trodAll_cons_mk (Below.trod laidOut (by kernel_rfl) (of_decide_eq_true (by kernel_rfl)) h0 bel lt0) (trodAll_cons_mk (Below.trod laidOut (by kernel_rfl) (of_decide_eq_true (by kernel_rfl)) h1 bel lt1) (trodAll_cons_mk (Below.trod laidOut (by kernel_rfl) (of_decide_eq_true (by kernel_rfl)) h2 bel lt2) trodAll_mk0))), rfl, bel.frame _, fun h => by cases h⟩
theorem over : Rows.sharesChecksRow.holds Try.pinned (OpenSpec.ofChange Rows.sharesChecksSpec) :=
  OpenClaim.holds_of_wide 10 Try.f10 rfl rfl rfl rfl rfl rfl rfl ⟨rfl, rfl, rfl, rfl, rfl⟩ rfl rfl rfl rfl rfl (by kernel_rfl) Try.func10 (by kernel_rfl)
    (of_decide_eq_true (by kernel_rfl)) (by unfold Func.isWrapper; first | (rw [if_pos (by decide +kernel)]; kernel_rfl) | (rw [if_neg (by decide +kernel)]; exact ⟨rfl, rfl⟩))
    (fun os started H enc _ => lifted os started H enc)
theorem proved : Rows.SharesChecksSaid := over
#print axioms proved
end Go.Proofs.Ytjohcjfmlhihbaa.sharesChecks
namespace Go.Proofs.Ytjohcjfmlhihbaa
/-- The row, under a short name, for the claim. -/
theorem sharesChecks_holds : Rows.SharesChecksSaid := sharesChecks.proved
end Go.Proofs.Ytjohcjfmlhihbaa
