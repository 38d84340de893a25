/- Every total function of at most five variables: the method ends, or comes to a state again, within 1990 steps. -/
import Derived.Test.YthpahlkhiknofaaJd1
import Derived.Test.YthpahlkhiknofaaJd2
import Derived.Test.YthpahlkhiknofaaJd3
import Derived.Test.YthpahlkhiknofaaJd4
namespace Go.Proofs.Ythpahlkhiknofaa.J
def prefs : List (Nat × Nat) := [(17, 0), (17, 65536), (16, 32768), (15, 16384), (14, 8192), (13, 4096), (12, 2048), (12, 1024), (12, 3072), (12, 512), (12, 2560), (11, 1536), (11, 256), (11, 1280), (11, 768), (12, 1792), (12, 3840), (10, 128), (10, 640), (9, 384), (9, 64), (9, 320), (11, 192), (11, 1216), (10, 704), (9, 448), (9, 32), (9, 288), (10, 160), (10, 672), (9, 416), (7, 96), (7, 16), (8, 80), (8, 208), (8, 48), (8, 176), (8, 112), (9, 240), (9, 496), (9, 8), (9, 264), (10, 136), (10, 648), (9, 392), (7, 72), (7, 40), (7, 104), (5, 24), (7, 4), (8, 68), (8, 196), (6, 36), (7, 20), (8, 84), (8, 212), (6, 52), (8, 12), (8, 140), (8, 76), (9, 204), (9, 460), (6, 44), (6, 28), (6, 60), (6, 2), (8, 34), (8, 162), (7, 98), (6, 18), (8, 50), (8, 178), (7, 114), (8, 10), (8, 138), (7, 74), (8, 42), (9, 170), (9, 426), (7, 106), (6, 26), (7, 58), (7, 122), (4, 6), (8, 14), (8, 142), (7, 78), (7, 46), (7, 110), (5, 30)]
theorem prefs_ok : ∀ x ∈ prefs, Fin2 x.1 x.2 := by
  intro x hx
  unfold prefs at hx
  simp only [List.mem_cons, List.not_mem_nil, or_false] at hx
  rcases hx with rfl | rfl | rfl | rfl | rfl | rfl | rfl | rfl | rfl | rfl | rfl | rfl | rfl | rfl | rfl | rfl | rfl | rfl | rfl | rfl | rfl | rfl | rfl | rfl | rfl | rfl | rfl | rfl | rfl | rfl | rfl | rfl | rfl | rfl | rfl | rfl | rfl | rfl | rfl | rfl | rfl | rfl | rfl | rfl | rfl | rfl | rfl | rfl | rfl | rfl | rfl | rfl | rfl | rfl | rfl | rfl | rfl | rfl | rfl | rfl | rfl | rfl | rfl | rfl | rfl | rfl | rfl | rfl | rfl | rfl | rfl | rfl | rfl | rfl | rfl | rfl | rfl | rfl | rfl | rfl | rfl | rfl | rfl | rfl | rfl | rfl | rfl | rfl | rfl | rfl
  · exact t0
  · exact t1
  · exact t2
  · exact t3
  · exact t4
  · exact t5
  · exact t6
  · exact t7
  · exact t8
  · exact t9
  · exact t10
  · exact t11
  · exact t12
  · exact t13
  · exact t14
  · exact t15
  · exact t16
  · exact t17
  · exact t18
  · exact t19
  · exact t20
  · exact t21
  · exact t22
  · exact t23
  · exact t24
  · exact t25
  · exact t26
  · exact t27
  · exact t28
  · exact t29
  · exact t30
  · exact t31
  · exact t32
  · exact t33
  · exact t34
  · exact t35
  · exact t36
  · exact t37
  · exact t38
  · exact t39
  · exact t40
  · exact t41
  · exact t42
  · exact t43
  · exact t44
  · exact t45
  · exact t46
  · exact t47
  · exact t48
  · exact t49
  · exact t50
  · exact t51
  · exact t52
  · exact t53
  · exact t54
  · exact t55
  · exact t56
  · exact t57
  · exact t58
  · exact t59
  · exact t60
  · exact t61
  · exact t62
  · exact t63
  · exact t64
  · exact t65
  · exact t66
  · exact t67
  · exact t68
  · exact t69
  · exact t70
  · exact t71
  · exact t72
  · exact t73
  · exact t74
  · exact t75
  · exact t76
  · exact t77
  · exact t78
  · exact t79
  · exact t80
  · exact t81
  · exact t82
  · exact t83
  · exact t84
  · exact t85
  · exact t86
  · exact t87
  · exact t88
  · exact t89
theorem prefs_cov : cov prefs 33 1 0 = true := by kernel_rfl
theorem ok_zero {f : Nat → Bool} (h : f 0 = false) : Ok f z0 1990 :=
  cov_some prefs_ok f 33 1 0 (by decide) (fun i hi => by
    have : i = 0 := by omega
    subst this
    rw [h]; rfl) prefs_cov
theorem ok_all (f : Nat → Bool) : Ok f z0 1990 := by
  cases h : f 0 with
  | false => exact ok_zero h
  | true => exact ok_neg (ok_zero (by unfold notF; rw [h]; rfl))
theorem ends (f : Nat → Bool) {n : Nat} (hn : n ≤ 5) : (∃ K, K ≤ 1990 ∧ fwx f n (2 ^ n) (run f n (2 ^ n) K) = none) ∨ ∃ J K, J < K ∧ K ≤ 1990 ∧ run f n (2 ^ n) J = run f n (2 ^ n) K := ends_of (ok_all f) hn
end Go.Proofs.Ythpahlkhiknofaa.J
