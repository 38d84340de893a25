/- Several texts, joined. -/
import Derived.Laws.BitsLemmas
import Derived.KernelRfl
import Derived.WalkKit
import Derived.WalkSpells
import Derived.WalkLawsBesides
import Derived.Deep.DeepFit
import Derived.Lib.Hide
import Derived.RangeFuncNested
import Derived.RangeFuncBound
import Derived.RangeFuncCalls
import Derived.RangeFuncLeaves
import Derived.Shelf.Abstract
import Derived.Shelf.RegionOpen
import Derived.OwnWalkIn
import Derived.TacticsInMore
import Derived.LoopNIn
import Derived.LoopIn
import Derived.Sort.QuietIn
import Derived.Sort.BigQuietIn
import Derived.TacticsIn
import Derived.Stop.RegionWithIn
import Derived.Sort.QuietTacIn
import Derived.Maps.AppendAt
import Derived.RangeFuncBox
import Derived.BigFrameIn
import Derived.Sort.LoopGhostIn
import Derived.WideLaws
import Derived.Laws.StructEq
import Derived.Below
import Derived.Deep.Draws
import Derived.Deep.AppendLies
import Derived.OwnWalk
import Derived.Laws.BytesArg
import Derived.Laws.MakeOwn
import Derived.Laws.OwnMore
import Derived.Deep.OwnRows
import Derived.Tactics
import Derived.Lib.ConvBytes
import Derived.Laws.Slices
import Derived.RowKit3
import Derived.Deep.LoopGhost
import Derived.Deep.QuietTactic
import Derived.BigQuiet
import Derived.Deep.DeepCutAuto
import Derived.Deep.CutBlock
import Derived.Deep.RegionHeld3
import Derived.Laws.Rows
import Derived.Lib.AppendStr
import Derived.ArgAppend
import Derived.Laws.IdiomCopy
import Derived.OrdersHeld
import Derived.RowKit
import Derived.Laws.CopyOwn
import Derived.Deep.RegionLaw
import Derived.Laws.Tables
import Derived.Test.YtpbeaaihdmfnlaaDoorProg
import Derived.Test.YtpbeaaihdmfnlaaDoorQChronicles1

/- ### M -/
namespace Go.Proofs.YtpbeaaihdmfnlaaDoor.M
open Go
/-- a without b. -/
def andNot (a b : Nat) : Nat := a ^^^ (a &&& b)
/-- The places of a set below 64, in ascending order. -/
def bitsOf (s : Nat) : List Nat := (List.range 64).filter (fun i => s.testBit i)
def card (s : Nat) : Nat := (bitsOf s).length
def full (n : Nat) : Nat := 2 ^ n - 1
theorem testBit_andNot (a b i : Nat) : (andNot a b).testBit i = (a.testBit i && !b.testBit i) := by
  unfold andNot
  rw [Nat.testBit_xor, Nat.testBit_and]
  cases a.testBit i <;> cases b.testBit i <;> rfl
theorem andNot_lt {a b k : Nat} (ha : a < 2 ^ k) : andNot a b < 2 ^ k :=
  Nat.xor_lt_two_pow ha (Nat.lt_of_le_of_lt Nat.and_le_left ha)
theorem mem_bitsOf {s i : Nat} : i ∈ bitsOf s ↔ i < 64 ∧ s.testBit i = true := by
  simp [bitsOf, List.mem_filter, List.mem_range]
theorem testBit_full (n i : Nat) : (full n).testBit i = decide (i < n) := by
  unfold full; exact Nat.testBit_two_pow_sub_one n i
theorem full_lt (n k : Nat) (h : n ≤ k) : full n < 2 ^ k := by
  unfold full
  have h1 : 2 ^ n ≤ 2 ^ k := Nat.pow_le_pow_right (by decide) h
  have h2 : 0 < 2 ^ n := Nat.two_pow_pos n
  omega
theorem eq_of_bits {a b k : Nat} (ha : a < 2 ^ k) (hb : b < 2 ^ k) (h : ∀ i, i < k → a.testBit i = b.testBit i) : a = b := by
  apply Nat.eq_of_testBit_eq
  intro i
  by_cases hi : i < k
  · exact h i hi
  · have hk : 2 ^ k ≤ 2 ^ i := Nat.pow_le_pow_right (by decide) (by omega)
    rw [Nat.testBit_lt_two_pow (Nat.lt_of_lt_of_le ha hk), Nat.testBit_lt_two_pow (Nat.lt_of_lt_of_le hb hk)]
theorem bit_lt {s i k : Nat} (hs : s < 2 ^ k) (h : s.testBit i = true) : i < k := by
  rcases Nat.lt_or_ge i k with h1 | h1
  · exact h1
  · have hk : 2 ^ k ≤ 2 ^ i := Nat.pow_le_pow_right (by decide) h1
    rw [Nat.testBit_lt_two_pow (Nat.lt_of_lt_of_le hs hk)] at h; cases h
theorem wrap_u64_nat (n : Nat) (h : n < 2 ^ 64) : IntKind.u64.wrap (n : Int) = (n : Int) := by
  simp only [IntKind.wrap, IntKind.bits, IntKind.signed]
  have : (n : Int) < 2 ^ 64 := by exact_mod_cast h
  simp
  omega
theorem wraps_u64 (n : Int) (h₀ : 0 ≤ n) (h₁ : n < 2 ^ 64) : IntKind.u64.wrap n = n := by
  obtain ⟨m, rfl⟩ := Int.eq_ofNat_of_zero_le h₀
  exact wrap_u64_nat m (by exact_mod_cast h₁)
theorem wraps_i64 (n : Int) (h₀ : 0 ≤ n) (h₁ : n < 2 ^ 63) : IntKind.i64.wrap n = n := by
  rw [IntKind.wrap_i64]; omega
theorem nu_and (a b : Nat) (ha : a < 2 ^ 64) (hb : b < 2 ^ 64) : bits .and .u64 (a : Int) (b : Int) = ((a &&& b : Nat) : Int) :=
  (bits_nat .u64 64 (by decide) wraps_u64 a b ha hb).1
theorem nu_or (a b : Nat) (ha : a < 2 ^ 64) (hb : b < 2 ^ 64) : bits .or .u64 (a : Int) (b : Int) = ((a ||| b : Nat) : Int) :=
  (bits_nat .u64 64 (by decide) wraps_u64 a b ha hb).2
theorem ni_and (a b : Nat) (ha : a < 2 ^ 63) (hb : b < 2 ^ 63) : bits .and .i64 (a : Int) (b : Int) = ((a &&& b : Nat) : Int) :=
  (bits_nat .i64 63 (by decide) wraps_i64 a b ha hb).1
theorem ni_or (a b : Nat) (ha : a < 2 ^ 63) (hb : b < 2 ^ 63) : bits .or .i64 (a : Int) (b : Int) = ((a ||| b : Nat) : Int) :=
  (bits_nat .i64 63 (by decide) wraps_i64 a b ha hb).2
theorem bits_andNot_nat (k : IntKind) (j : Nat) (hj : j ≤ k.bits) (hk : ∀ n : Int, 0 ≤ n → n < 2 ^ j → k.wrap n = n) (a b : Nat) (ha : a < 2 ^ j) :
    bits .andNot k a b = ((andNot a b : Nat) : Int) := by
  have hp : 2 ^ j ≤ 2 ^ k.bits := Nat.pow_le_pow_right (by decide) hj
  have e : (BitVec.ofInt k.bits (a : Int) &&& ~~~ BitVec.ofInt k.bits (b : Int)).toNat = andNot a b := by
    apply Nat.eq_of_testBit_eq
    intro i
    rw [BitVec.testBit_toNat, testBit_andNot, BitVec.getLsbD_and, BitVec.getLsbD_not, BitVec.ofInt_natCast, BitVec.ofInt_natCast, BitVec.getLsbD_ofNat, BitVec.getLsbD_ofNat]
    by_cases hi : i < k.bits
    · simp [hi]
    · have : a.testBit i = false := by
        refine Nat.testBit_lt_two_pow (Nat.lt_of_lt_of_le ha (Nat.le_trans hp (Nat.pow_le_pow_right (by decide) (by omega))))
      simp [hi, this]
  have h2 : andNot a b < 2 ^ j := andNot_lt ha
  unfold bits
  show k.wrap (((BitVec.ofInt k.bits (a : Int) &&& ~~~ BitVec.ofInt k.bits (b : Int)).toNat : Nat) : Int) = _
  rw [e]
  exact hk _ (Int.natCast_nonneg _) (by exact_mod_cast h2)
theorem nu_andNot (a b : Nat) (ha : a < 2 ^ 64) : bits .andNot .u64 (a : Int) (b : Int) = ((andNot a b : Nat) : Int) :=
  bits_andNot_nat .u64 64 (by decide) wraps_u64 a b ha
theorem ni_andNot (a b : Nat) (ha : a < 2 ^ 63) : bits .andNot .i64 (a : Int) (b : Int) = ((andNot a b : Nat) : Int) :=
  bits_andNot_nat .i64 63 (by decide) wraps_i64 a b ha
theorem u64_shl_one (v : Nat) (hv : v < 64) : IntKind.u64.wrap ((2 : Int) ^ v) = ((2 ^ v : Nat) : Int) := by
  have h : (2 : Nat) ^ v < 2 ^ 64 := Nat.pow_lt_pow_right (by decide) hv
  have e : ((2 : Int) ^ v) = ((2 ^ v : Nat) : Int) := by simp
  rw [e]; exact wrap_u64_nat _ h
theorem i64_shl_one (v : Nat) (hv : v < 63) : IntKind.i64.wrap ((2 : Int) ^ v) = ((2 ^ v : Nat) : Int) := by
  have h : (2 : Nat) ^ v < 2 ^ 63 := Nat.pow_lt_pow_right (by decide) hv
  have e : ((2 : Int) ^ v) = ((2 ^ v : Nat) : Int) := by simp
  rw [e]; exact wraps_i64 _ (Int.natCast_nonneg _) (by exact_mod_cast h)
theorem u64_full (n : Nat) (hn : n < 64) : IntKind.u64.wrap (IntKind.u64.wrap ((2 : Int) ^ n) - 1) = ((full n : Nat) : Int) := by
  rw [u64_shl_one n hn]
  have h2 : 0 < 2 ^ n := Nat.two_pow_pos n
  have e : (((2 ^ n : Nat) : Int) - 1) = ((full n : Nat) : Int) := by unfold full; omega
  rw [e]; exact wrap_u64_nat _ (full_lt n 64 (by omega))
theorem div_two_pow (a v : Nat) : ((a : Int) / 2 ^ v) = ((a / 2 ^ v : Nat) : Int) := by simp
/-- The lowest place. -/
theorem bitsOf_zero : bitsOf 0 = [] := by decide
theorem bitsOf_eq_nil {s : Nat} (hs : s < 2 ^ 64) : bitsOf s = [] ↔ s = 0 := by
  constructor
  · intro h
    apply eq_of_bits hs (by decide)
    intro i hi
    rw [Nat.zero_testBit]
    by_cases hb : s.testBit i = true
    · have := mem_bitsOf.2 ⟨hi, hb⟩
      rw [h] at this; cases this
    · simpa using hb
  · rintro rfl; exact bitsOf_zero
end Go.Proofs.YtpbeaaihdmfnlaaDoor.M

/- ### Mb -/
namespace Go.Proofs.YtpbeaaihdmfnlaaDoor.M
open Go Go.RowKit
/-- What OnesCount64 computes. -/
def popF (a0 : Int) : Int := Go.bits .and .i64 (wrap64 (IntKind.u64.wrap ((IntKind.u64.wrap ((IntKind.u64.wrap ((Go.bits .and .u64 (IntKind.u64.wrap (((IntKind.u64.wrap ((Go.bits .and .u64 ((IntKind.u64.wrap ((Go.bits .and .u64 (a0 / 2) 6148914691236517205) + (Go.bits .and .u64 a0 6148914691236517205))) / 4) 3689348814741910323) + (Go.bits .and .u64 (IntKind.u64.wrap ((Go.bits .and .u64 (a0 / 2) 6148914691236517205) + (Go.bits .and .u64 a0 6148914691236517205))) 3689348814741910323))) / 16) + (IntKind.u64.wrap ((Go.bits .and .u64 ((IntKind.u64.wrap ((Go.bits .and .u64 (a0 / 2) 6148914691236517205) + (Go.bits .and .u64 a0 6148914691236517205))) / 4) 3689348814741910323) + (Go.bits .and .u64 (IntKind.u64.wrap ((Go.bits .and .u64 (a0 / 2) 6148914691236517205) + (Go.bits .and .u64 a0 6148914691236517205))) 3689348814741910323))))) 1085102592571150095) + ((Go.bits .and .u64 (IntKind.u64.wrap (((IntKind.u64.wrap ((Go.bits .and .u64 ((IntKind.u64.wrap ((Go.bits .and .u64 (a0 / 2) 6148914691236517205) + (Go.bits .and .u64 a0 6148914691236517205))) / 4) 3689348814741910323) + (Go.bits .and .u64 (IntKind.u64.wrap ((Go.bits .and .u64 (a0 / 2) 6148914691236517205) + (Go.bits .and .u64 a0 6148914691236517205))) 3689348814741910323))) / 16) + (IntKind.u64.wrap ((Go.bits .and .u64 ((IntKind.u64.wrap ((Go.bits .and .u64 (a0 / 2) 6148914691236517205) + (Go.bits .and .u64 a0 6148914691236517205))) / 4) 3689348814741910323) + (Go.bits .and .u64 (IntKind.u64.wrap ((Go.bits .and .u64 (a0 / 2) 6148914691236517205) + (Go.bits .and .u64 a0 6148914691236517205))) 3689348814741910323))))) 1085102592571150095) / 256))) + ((IntKind.u64.wrap ((Go.bits .and .u64 (IntKind.u64.wrap (((IntKind.u64.wrap ((Go.bits .and .u64 ((IntKind.u64.wrap ((Go.bits .and .u64 (a0 / 2) 6148914691236517205) + (Go.bits .and .u64 a0 6148914691236517205))) / 4) 3689348814741910323) + (Go.bits .and .u64 (IntKind.u64.wrap ((Go.bits .and .u64 (a0 / 2) 6148914691236517205) + (Go.bits .and .u64 a0 6148914691236517205))) 3689348814741910323))) / 16) + (IntKind.u64.wrap ((Go.bits .and .u64 ((IntKind.u64.wrap ((Go.bits .and .u64 (a0 / 2) 6148914691236517205) + (Go.bits .and .u64 a0 6148914691236517205))) / 4) 3689348814741910323) + (Go.bits .and .u64 (IntKind.u64.wrap ((Go.bits .and .u64 (a0 / 2) 6148914691236517205) + (Go.bits .and .u64 a0 6148914691236517205))) 3689348814741910323))))) 1085102592571150095) + ((Go.bits .and .u64 (IntKind.u64.wrap (((IntKind.u64.wrap ((Go.bits .and .u64 ((IntKind.u64.wrap ((Go.bits .and .u64 (a0 / 2) 6148914691236517205) + (Go.bits .and .u64 a0 6148914691236517205))) / 4) 3689348814741910323) + (Go.bits .and .u64 (IntKind.u64.wrap ((Go.bits .and .u64 (a0 / 2) 6148914691236517205) + (Go.bits .and .u64 a0 6148914691236517205))) 3689348814741910323))) / 16) + (IntKind.u64.wrap ((Go.bits .and .u64 ((IntKind.u64.wrap ((Go.bits .and .u64 (a0 / 2) 6148914691236517205) + (Go.bits .and .u64 a0 6148914691236517205))) / 4) 3689348814741910323) + (Go.bits .and .u64 (IntKind.u64.wrap ((Go.bits .and .u64 (a0 / 2) 6148914691236517205) + (Go.bits .and .u64 a0 6148914691236517205))) 3689348814741910323))))) 1085102592571150095) / 256))) / 65536))) + ((IntKind.u64.wrap ((IntKind.u64.wrap ((Go.bits .and .u64 (IntKind.u64.wrap (((IntKind.u64.wrap ((Go.bits .and .u64 ((IntKind.u64.wrap ((Go.bits .and .u64 (a0 / 2) 6148914691236517205) + (Go.bits .and .u64 a0 6148914691236517205))) / 4) 3689348814741910323) + (Go.bits .and .u64 (IntKind.u64.wrap ((Go.bits .and .u64 (a0 / 2) 6148914691236517205) + (Go.bits .and .u64 a0 6148914691236517205))) 3689348814741910323))) / 16) + (IntKind.u64.wrap ((Go.bits .and .u64 ((IntKind.u64.wrap ((Go.bits .and .u64 (a0 / 2) 6148914691236517205) + (Go.bits .and .u64 a0 6148914691236517205))) / 4) 3689348814741910323) + (Go.bits .and .u64 (IntKind.u64.wrap ((Go.bits .and .u64 (a0 / 2) 6148914691236517205) + (Go.bits .and .u64 a0 6148914691236517205))) 3689348814741910323))))) 1085102592571150095) + ((Go.bits .and .u64 (IntKind.u64.wrap (((IntKind.u64.wrap ((Go.bits .and .u64 ((IntKind.u64.wrap ((Go.bits .and .u64 (a0 / 2) 6148914691236517205) + (Go.bits .and .u64 a0 6148914691236517205))) / 4) 3689348814741910323) + (Go.bits .and .u64 (IntKind.u64.wrap ((Go.bits .and .u64 (a0 / 2) 6148914691236517205) + (Go.bits .and .u64 a0 6148914691236517205))) 3689348814741910323))) / 16) + (IntKind.u64.wrap ((Go.bits .and .u64 ((IntKind.u64.wrap ((Go.bits .and .u64 (a0 / 2) 6148914691236517205) + (Go.bits .and .u64 a0 6148914691236517205))) / 4) 3689348814741910323) + (Go.bits .and .u64 (IntKind.u64.wrap ((Go.bits .and .u64 (a0 / 2) 6148914691236517205) + (Go.bits .and .u64 a0 6148914691236517205))) 3689348814741910323))))) 1085102592571150095) / 256))) + ((IntKind.u64.wrap ((Go.bits .and .u64 (IntKind.u64.wrap (((IntKind.u64.wrap ((Go.bits .and .u64 ((IntKind.u64.wrap ((Go.bits .and .u64 (a0 / 2) 6148914691236517205) + (Go.bits .and .u64 a0 6148914691236517205))) / 4) 3689348814741910323) + (Go.bits .and .u64 (IntKind.u64.wrap ((Go.bits .and .u64 (a0 / 2) 6148914691236517205) + (Go.bits .and .u64 a0 6148914691236517205))) 3689348814741910323))) / 16) + (IntKind.u64.wrap ((Go.bits .and .u64 ((IntKind.u64.wrap ((Go.bits .and .u64 (a0 / 2) 6148914691236517205) + (Go.bits .and .u64 a0 6148914691236517205))) / 4) 3689348814741910323) + (Go.bits .and .u64 (IntKind.u64.wrap ((Go.bits .and .u64 (a0 / 2) 6148914691236517205) + (Go.bits .and .u64 a0 6148914691236517205))) 3689348814741910323))))) 1085102592571150095) + ((Go.bits .and .u64 (IntKind.u64.wrap (((IntKind.u64.wrap ((Go.bits .and .u64 ((IntKind.u64.wrap ((Go.bits .and .u64 (a0 / 2) 6148914691236517205) + (Go.bits .and .u64 a0 6148914691236517205))) / 4) 3689348814741910323) + (Go.bits .and .u64 (IntKind.u64.wrap ((Go.bits .and .u64 (a0 / 2) 6148914691236517205) + (Go.bits .and .u64 a0 6148914691236517205))) 3689348814741910323))) / 16) + (IntKind.u64.wrap ((Go.bits .and .u64 ((IntKind.u64.wrap ((Go.bits .and .u64 (a0 / 2) 6148914691236517205) + (Go.bits .and .u64 a0 6148914691236517205))) / 4) 3689348814741910323) + (Go.bits .and .u64 (IntKind.u64.wrap ((Go.bits .and .u64 (a0 / 2) 6148914691236517205) + (Go.bits .and .u64 a0 6148914691236517205))) 3689348814741910323))))) 1085102592571150095) / 256))) / 65536))) / 4294967296)))) 127
/-- What TrailingZeros64 computes, by its table. -/
def tzTab : List Nat := [0, 1, 56, 2, 57, 49, 28, 3, 61, 58, 42, 50, 38, 29, 17, 4, 62, 47, 59, 36, 45, 43, 51, 22, 53, 39, 33, 30, 24, 18, 12, 5, 63, 55, 48, 27, 60, 41, 37, 16, 46, 35, 44, 21, 52, 32, 23, 11, 54, 26, 40, 15, 34, 20, 31, 10, 25, 14, 19, 9, 13, 8, 7, 6]
def low (s : Nat) : Nat := (bitsOf s).headD 64
/-- A fact on all sets of twelve places, in eight parts. -/
theorem by_eight (p : Nat → Bool) (h0 : (List.range 512).all (fun s => p s) = true) (h1 : (List.range 512).all (fun s => p (s + 512)) = true) (h2 : (List.range 512).all (fun s => p (s + 1024)) = true) (h3 : (List.range 512).all (fun s => p (s + 1536)) = true)
    (h4 : (List.range 512).all (fun s => p (s + 2048)) = true) (h5 : (List.range 512).all (fun s => p (s + 2560)) = true) (h6 : (List.range 512).all (fun s => p (s + 3072)) = true) (h7 : (List.range 512).all (fun s => p (s + 3584)) = true) : ∀ s : Nat, s < 4096 → p s = true := by
  intro s hs
  have go : ∀ k : Nat, k ≤ s → s < k + 512 → (List.range 512).all (fun s => p (s + k)) = true → p s = true := by
    intro k hk hk2 h
    have := List.all_eq_true.1 h (s - k) (List.mem_range.2 (by omega))
    rwa [show s - k + k = s by omega] at this
  rcases Nat.lt_or_ge s 512 with c | c
  · exact go 0 (by omega) (by omega) h0
  · rcases Nat.lt_or_ge s 1024 with c | c
    · exact go 512 (by omega) (by omega) h1
    · rcases Nat.lt_or_ge s 1536 with c | c
      · exact go 1024 (by omega) (by omega) h2
      · rcases Nat.lt_or_ge s 2048 with c | c
        · exact go 1536 (by omega) (by omega) h3
        · rcases Nat.lt_or_ge s 2560 with c | c
          · exact go 2048 (by omega) (by omega) h4
          · rcases Nat.lt_or_ge s 3072 with c | c
            · exact go 2560 (by omega) (by omega) h5
            · rcases Nat.lt_or_ge s 3584 with c | c
              · exact go 3072 (by omega) (by omega) h6
              · exact go 3584 (by omega) (by omega) h7
def popQB (s : Nat) : Bool := popF (s : Int) == ((card s : Nat) : Int)
theorem popQ0 : (List.range 512).all (fun s => popQB (s)) = true := by kernel_rfl
theorem popQ1 : (List.range 512).all (fun s => popQB (s + 512)) = true := by kernel_rfl
theorem popQ2 : (List.range 512).all (fun s => popQB (s + 1024)) = true := by kernel_rfl
theorem popQ3 : (List.range 512).all (fun s => popQB (s + 1536)) = true := by kernel_rfl
theorem popQ4 : (List.range 512).all (fun s => popQB (s + 2048)) = true := by kernel_rfl
theorem popQ5 : (List.range 512).all (fun s => popQB (s + 2560)) = true := by kernel_rfl
theorem popQ6 : (List.range 512).all (fun s => popQB (s + 3072)) = true := by kernel_rfl
theorem popQ7 : (List.range 512).all (fun s => popQB (s + 3584)) = true := by kernel_rfl
theorem pop_small : ∀ s : Nat, s < 4096 → popF (s : Int) = ((card s : Nat) : Int) := by
  intro s hs
  exact beq_iff_eq.1 (by_eight popQB popQ0 popQ1 popQ2 popQ3 popQ4 popQ5 popQ6 popQ7 s hs)
/-- Where TrailingZeros64 looks into its table. -/
def tzI (x : Int) : Int := IntKind.u64.wrap (bits .and .u64 x (IntKind.u64.wrap (-x)) * 285870213051353865) / 288230376151711744
def tzQB (s : Nat) : Bool := s == 0 || (decide (0 ≤ tzI (s : Int)) && decide (tzI (s : Int) < 64) && (tzTab.getD (tzI (s : Int)).toNat 0 == low s))
theorem tzQ0 : (List.range 512).all (fun s => tzQB (s)) = true := by kernel_rfl
theorem tzQ1 : (List.range 512).all (fun s => tzQB (s + 512)) = true := by kernel_rfl
theorem tzQ2 : (List.range 512).all (fun s => tzQB (s + 1024)) = true := by kernel_rfl
theorem tzQ3 : (List.range 512).all (fun s => tzQB (s + 1536)) = true := by kernel_rfl
theorem tzQ4 : (List.range 512).all (fun s => tzQB (s + 2048)) = true := by kernel_rfl
theorem tzQ5 : (List.range 512).all (fun s => tzQB (s + 2560)) = true := by kernel_rfl
theorem tzQ6 : (List.range 512).all (fun s => tzQB (s + 3072)) = true := by kernel_rfl
theorem tzQ7 : (List.range 512).all (fun s => tzQB (s + 3584)) = true := by kernel_rfl
theorem tz_small : ∀ s : Nat, 0 < s → s < 4096 → 0 ≤ tzI (s : Int) ∧ tzI (s : Int) < 64 ∧ tzTab.getD (tzI (s : Int)).toNat 0 = low s := by
  intro s h0 hs
  have this := by_eight tzQB tzQ0 tzQ1 tzQ2 tzQ3 tzQ4 tzQ5 tzQ6 tzQ7 s hs
  unfold tzQB at this
  rw [Bool.or_eq_true] at this
  rcases this with h1 | h1
  · have := beq_iff_eq.1 h1; omega
  · rw [Bool.and_eq_true, Bool.and_eq_true] at h1
    exact ⟨of_decide_eq_true h1.1.1, of_decide_eq_true h1.1.2, beq_iff_eq.1 h1.2⟩
def restQB (s : Nat) : Bool := s == 0 || (bitsOf s == low s :: bitsOf (s &&& (s - 1)))
theorem restQ0 : (List.range 512).all (fun s => restQB (s)) = true := by kernel_rfl
theorem restQ1 : (List.range 512).all (fun s => restQB (s + 512)) = true := by kernel_rfl
theorem restQ2 : (List.range 512).all (fun s => restQB (s + 1024)) = true := by kernel_rfl
theorem restQ3 : (List.range 512).all (fun s => restQB (s + 1536)) = true := by kernel_rfl
theorem restQ4 : (List.range 512).all (fun s => restQB (s + 2048)) = true := by kernel_rfl
theorem restQ5 : (List.range 512).all (fun s => restQB (s + 2560)) = true := by kernel_rfl
theorem restQ6 : (List.range 512).all (fun s => restQB (s + 3072)) = true := by kernel_rfl
theorem restQ7 : (List.range 512).all (fun s => restQB (s + 3584)) = true := by kernel_rfl
theorem rest_small : ∀ r : Nat, 0 < r → r < 4096 → bitsOf r = low r :: bitsOf (r &&& (r - 1)) := by
  intro s h0 hs
  have this := by_eight restQB restQ0 restQ1 restQ2 restQ3 restQ4 restQ5 restQ6 restQ7 s hs
  unfold restQB at this
  rw [Bool.or_eq_true] at this
  rcases this with h1 | h1
  · have := beq_iff_eq.1 h1; omega
  · exact beq_iff_eq.1 h1
end Go.Proofs.YtpbeaaihdmfnlaaDoor.M

/- ### A -/
namespace Go.Proofs.YtpbeaaihdmfnlaaDoor.H
open Go Go.RowKit Go.Proofs.YtpbeaaihdmfnlaaDoor.M
/-- A graph: places and the neighbors of each. -/
structure Gr where
  n : Nat
  near : Nat → Nat
def Gr.cells (g : Gr) : Array Value :=
  #[.int .i64 g.n, .int .u64 (g.near 0), .int .u64 (g.near 1), .int .u64 (g.near 2), .int .u64 (g.near 3), .int .u64 (g.near 4), .int .u64 (g.near 5),
    .int .u64 (g.near 6), .int .u64 (g.near 7), .int .u64 (g.near 8), .int .u64 (g.near 9), .int .u64 (g.near 10), .int .u64 (g.near 11)]
structure Gr.Ok (g : Gr) : Prop where
  pos : 1 ≤ g.n
  le : g.n ≤ 12
  near : ∀ v, g.near v < 2 ^ g.n
theorem ret_u64 {a b : Int} (h : a = b) : Ending.returned (.int .u64 a) = .returned (.int .u64 b) := by rw [h]
theorem ret_i64 {a b : Int} (h : a = b) : Ending.returned (.int .i64 a) = .returned (.int .i64 b) := by rw [h]
theorem ret_bool {a b : Bool} (h : a = b) : Ending.returned (.bool a) = .returned (.bool b) := by rw [h]
set_option maxHeartbeats 400000 in
theorem all_any (g : Gr) (hg : g.Ok) (w : World) : Calls Tryd.prog 74 #[.agg g.cells] w fun e w' =>
    e = .returned (.int .u64 ((full g.n : Nat) : Int)) ∧ Below w.heap.size w w' := by
  have h1 : (0 : Int) ≤ (g.n : Int) := by omega
  have h2 : (g.n : Int) ≤ 64 := by have := hg.le; omega
  have e := u64_full g.n (by have := hg.le; omega)
  have H := Lib.hid e
  clear e
  unfold Gr.cells
  go_enter Tryd.func74, Tryd.ntmps74
  go_wp2
  go_ret
  exact ⟨ret_u64 (by simpa using H.out), (Below.refl _ _).alloc (Nat.le_refl _) _⟩
set_option maxHeartbeats 400000 in
theorem within_any (n lo hi : Int) (w : World) : Calls Tryd.prog 68 #[.int .i64 n, .int .i64 lo, .int .i64 hi] w fun e w' => e = .returned (.bool (decide (lo ≤ n ∧ n ≤ hi))) ∧ w = w' := by
  by_cases h1 : lo ≤ n
  · go_enter Tryd.func68, Tryd.ntmps68
    go_wp2
    go_ret
    exact ⟨ret_bool (by simp [h1]), rfl⟩
  · have h3 : decide (lo ≤ n) = false := by simpa using h1
    go_enter Tryd.func68, Tryd.ntmps68
    go_wp2
    go_ret
    exact ⟨ret_bool (by simp), rfl⟩
theorem and_one (a : Nat) (ha : a < 2 ^ 64) : bits .and .u64 (a : Int) 1 = ((a % 2 : Nat) : Int) := by
  have := M.nu_and a 1 ha (by decide)
  rw [Nat.and_one_is_mod] at this
  exact this
theorem has_bit (s v : Nat) (hs : s < 2 ^ 64) : (bits .and .u64 ((s : Int) / 2 ^ v) 1 == 1) = s.testBit v := by
  rw [div_two_pow, and_one _ (Nat.lt_of_le_of_lt (Nat.div_le_self _ _) hs), Nat.testBit_eq_decide_div_mod_eq]
  rcases Nat.mod_two_eq_zero_or_one (s / 2 ^ v) with h | h <;> simp [h]
set_option maxHeartbeats 400000 in
theorem has_any (s v : Nat) (hs : s < 2 ^ 64) (hv : v < 64) (w : World) : Calls Tryd.prog 71 #[.int .u64 s, .int .i64 v] w fun e w' => e = .returned (.bool (s.testBit v)) ∧ w = w' := by
  have h0 : (0 : Int) ≤ (v : Int) := by omega
  have h1 : (v : Int) ≤ 64 := by omega
  go_enter Tryd.func71, Tryd.ntmps71
  go_wp2
  go_ret
  exact ⟨ret_bool (has_bit s v hs), rfl⟩
set_option maxHeartbeats 400000 in
theorem size_any (x : Nat) (hx : x < 4096) (w : World) : Calls Tryd.prog 80 #[.int .u64 x] w fun e w' => e = .returned (.int .i64 (card x)) ∧ w = w' := by
  go_enter Tryd.func80, Tryd.ntmps80
  go_wp2
  go_ret
  refine ⟨ret_i64 ?_, rfl⟩
  have := pop_small x hx
  unfold popF at this
  exact this
theorem tz_lt : ∀ j, tzTab.getD j 0 < 64 := by
  intro j
  by_cases h : j < 64
  · have : ∀ j, j < 64 → tzTab.getD j 0 < 64 := by decide
    exact this j h
  · rw [List.getD_eq_getElem?_getD, List.getElem?_eq_none (by simp [tzTab]; omega)]; decide
/-- The table of the lowest places lies as the program lays it. -/
def Tab (w : World) : Prop := ∀ i : Nat, i < 64 → w.cell? ⟨1, i, none⟩ = some (.int .u8 ((tzTab.getD i 0 : Nat) : Int)) ∧ 1 < w.heap.size
set_option maxHeartbeats 400000 in
theorem tz_any (x : Nat) (h0 : 0 < x) (hx : x < 4096) (w : World) (ht : Tab w) : Calls Tryd.prog 89 #[.int .u64 x] w fun e w' => e = .returned (.int .i64 (low x)) ∧ w = w' := by
  have hb : ((x : Int) == 0) = false := by rw [beq_eq_false_iff_ne]; omega
  obtain ⟨a1, a2, a3⟩ := tz_small x h0 hx
  have hc : w.cell? ⟨1, (tzI (x : Int)).toNat, none⟩ = some (.int .u8 ((low x : Nat) : Int)) := by
    have := (ht (tzI (x : Int)).toNat (by omega)).1
    rw [a3] at this; exact this
  have hl : low x < 64 := by rw [← a3]; exact tz_lt _
  have hl1 : (0 : Int) ≤ (low x : Int) := by omega
  have hl2 : (low x : Int) < 64 := by omega
  unfold tzI at a1 a2 hc
  have HI : 0 ≤ IntKind.u64.wrap (bits .and .u64 (x : Int) (IntKind.u64.wrap (-(x : Int))) * 285870213051353865) / 288230376151711744 ∧ IntKind.u64.wrap (bits .and .u64 (x : Int) (IntKind.u64.wrap (-(x : Int))) * 285870213051353865) / 288230376151711744 < 64 := ⟨a1, a2⟩
  clear ht a3 a1 a2
  go_enter Tryd.func89, Tryd.ntmps89
  go_wp2
  go_ret
  exact ⟨rfl, rfl⟩
/-- each(s): the iterator over the places of s; s lies in a box of its own. -/
theorem each_any (s : Int) (w : World) : Calls Tryd.prog 79 #[.int .u64 s] w fun e w' => e = .returned (.func (.func 88) #[] #[.pointer (some ⟨w.heap.size, 0, none⟩)]) ∧ w.alloc (.cells #[.int .u64 s] 78) = w' := by
  go_enter Tryd.func79, Tryd.ntmps79
  go_wp2
  go_ret
  exact ⟨rfl, rfl⟩
theorem soaked_any (r : Int) (w : World) : Calls Tryd.prog 69 #[.int .i64 r] w fun e w' => e = .returned (.func (.func 85) #[] #[.pointer (some ⟨w.heap.size, 0, none⟩)]) ∧ w.alloc (.cells #[.int .i64 r] 3) = w' := by
  go_enter Tryd.func69, Tryd.ntmps69
  go_wp2
  go_ret
  exact ⟨rfl, rfl⟩
theorem chosen_any (g : Gr) (many : Int) (w : World) : Calls Tryd.prog 61 #[.agg g.cells, .int .i64 many] w fun e w' =>
    e = .returned (.func (.func 81) #[] #[.pointer (some ⟨w.heap.size, 0, none⟩), .pointer (some ⟨w.heap.size + 1, 0, none⟩)]) ∧ (w.alloc (.cells g.cells 81)).alloc (.cells #[.int .i64 many] 3) = w' := by
  unfold Gr.cells
  go_enter Tryd.func61, Tryd.ntmps61
  go_wp2
  go_ret
  exact ⟨rfl, rfl⟩
end Go.Proofs.YtpbeaaihdmfnlaaDoor.H

/- ### L -/
namespace Go.Proofs.YtpbeaaihdmfnlaaDoor.H
open Go Go.RowKit Go.Shelf Go.Proofs.YtpbeaaihdmfnlaaDoor.M
attribute [local go_sem] Oper.semAt_some
theorem and_pred (r : Nat) (h0 : 0 < r) (hr : r < 4096) : bits .and .u64 (r : Int) ((r : Int) - 1) = ((r &&& (r - 1) : Nat) : Int) := by
  have e : ((r : Int) - 1) = ((r - 1 : Nat) : Int) := by omega
  rw [e, M.nu_and _ _ (by omega) (by omega)]
/-- What a cell's block holds, as a number. -/
def heldN (W : World) (c : Nat) : Nat := match W.cell? ⟨c, 0, none⟩ with
  | some (.int _ v) => v.toNat
  | _ => 0
theorem heldN_eq {W : World} {c : Nat} {k : IntKind} {v : Nat} (h : W.cell? ⟨c, 0, none⟩ = some (.int k v)) : heldN W c = v := by
  unfold heldN; rw [h]; simp
set_option maxHeartbeats 1000000 in
/-- **The iterator of each, for every loop body.** -/
theorem each1_in (n l c s : Nat) (hs : s < 4096) (J Jx : List Nat → World → Prop)
    (hJ : ∀ pre W v, J pre W → J pre (W.setCell ⟨c, 0, none⟩ v)) (hT : ∀ pre W, J pre W → Tab W)
    (hY : ∀ (pre : List Nat) (x : Nat) (rest : List Nat) (W : World), pre ++ x :: rest = bitsOf s → J pre W → YieldAt Fence.wide n Tryd.prog l #[.int .i64 (x : Int)] W fun e W' =>
      (e = .returned (.bool true) ∧ J (pre ++ [x]) W' ∧ W'.cell? ⟨c, 0, none⟩ = W.cell? ⟨c, 0, none⟩ ∧ W'.frozen? ⟨c, 0, none⟩ = W.frozen? ⟨c, 0, none⟩) ∨ (e = .returned (.bool false) ∧ Jx (pre ++ [x]) W'))
    (W : World) (hc : W.cell? ⟨c, 0, none⟩ = some (.int .u64 (s : Int))) (hf : W.frozen? ⟨c, 0, none⟩ = false) (h0 : J [] W) :
    CallsIn Fence.wide (n + 1) Tryd.prog 88 #[.func (.yield l) #[] #[], .pointer (some ⟨c, 0, none⟩)] W fun e W' => (∃ v, e = .returned v) ∧ (J (bitsOf s) W' ∨ ∃ pre, Jx pre W') := by
  refine callsIn_of_wp Tryd.func88 rfl trivial ?_ rfl
  simp only [Tryd.ntmps88, List.size_toArray, List.length_cons, List.length_nil, Nat.reduceAdd, Nat.reduceSub, Array.replicate_succ, Array.replicate_zero, List.push_toArray, List.append_toArray, List.nil_append, List.cons_append]
  gi_wp2
  gi_loopw [3] (fun _ wr => ∃ (pre : List Nat) (r : Nat), r < 4096 ∧ pre ++ bitsOf r = bitsOf s ∧ J pre wr ∧ wr.cell? ⟨c, 0, none⟩ = some (.int .u64 (r : Int)) ∧ wr.frozen? ⟨c, 0, none⟩ = false)
    (fun _ wr => heldN wr c)
  case atStart => exact ⟨[], s, hs, rfl, h0, hc, hf⟩
  case round =>
    obtain ⟨pre, r, hr, hpre, hj, hcr, hfr⟩ := hrel
    by_cases h0r : r = 0
    · subst h0r
      rw [bitsOf_zero, List.append_nil] at hpre
      subst hpre
      gi_wp2
      go_end0
      exact ⟨⟨_, rfl⟩, .inl hj⟩
    · have hpos : 0 < r := by omega
      have hposI : (0 : Int) < (r : Int) := by omega
      have hrest := rest_small r hpos hr
      have hpre2 : pre ++ low r :: bitsOf (r &&& (r - 1)) = bitsOf s := by rw [← hrest]; exact hpre
      have hap := and_pred r hpos hr
      have hlt : r &&& (r - 1) < r := by have := @Nat.and_le_right r (r - 1); omega
      have hTw := hT _ _ hj
      obtain ⟨fn, tmps, assign, body, hy, hR⟩ := hY pre (low r) _ wr hpre2 hj
      have HP := Lib.hid hpre2
      have HA := Lib.hid hap
      have HT := Lib.hid hTw
      clear hpre hrest hpre2 hap hTw h0r hj
      gi_wp2_with fail
      refine ⟨trivial, (callsIn_wide.2 (tz_any r hpos hr _ HT.out)).mono ?_⟩
      rintro e w' ⟨rfl, rfl⟩
      gi_wp2_with fail
      refine hR.mono ?_
      clear hR
      rintro e W3 (⟨rfl, hJ3, hk3, hf3⟩ | ⟨rfl, hJx3⟩)
      · have hc3 := hk3.trans hcr
        have hf3' := hf3.trans hfr
        have HJ3 := Lib.hid hJ3
        clear hk3 hf3 hJ3
        gi_wp2
        go_roundw
        case rel =>
          rw [HA.out]
          have hcc : (W3.setCell ⟨c, 0, none⟩ (.int .u64 ((r &&& (r - 1) : Nat) : Int))).cell? ⟨c, 0, none⟩ = some (.int .u64 ((r &&& (r - 1) : Nat) : Int)) := World.cell?_setCell_same' _ _ _ (by rw [hc3]; rfl)
          exact ⟨pre ++ [low r], r &&& (r - 1), by omega, by rw [← HP.out]; simp, hJ _ _ _ HJ3.out, hcc, by rw [World.frozen?_setCell]; exact hf3'⟩
        case measure =>
          rw [HA.out]
          have hcc : (W3.setCell ⟨c, 0, none⟩ (.int .u64 ((r &&& (r - 1) : Nat) : Int))).cell? ⟨c, 0, none⟩ = some (.int .u64 ((r &&& (r - 1) : Nat) : Int)) := World.cell?_setCell_same' _ _ _ (by rw [hc3]; rfl)
          rw [heldN_eq hcc, heldN_eq hcr]; exact hlt
      · gi_wp2
        refine bodyPost_ret (results_none rfl _ _ _) rfl ?_
        exact ⟨⟨_, rfl⟩, .inr ⟨_, hJx3⟩⟩
end Go.Proofs.YtpbeaaihdmfnlaaDoor.H

/- ### Lb -/
namespace Go.Proofs.YtpbeaaihdmfnlaaDoor.H
open Go Go.RowKit Go.Shelf Go.Proofs.YtpbeaaihdmfnlaaDoor.M
/-- A step that leaves the caller's blocks: all that lay below N, and all cells, but for block c. -/
structure Safe (N c : Nat) (W W' : World) : Prop where
  os : W'.os = W.os
  tape : W'.tape = W.tape
  output : W'.output = W.output
  size : W.heap.size ≤ W'.heap.size
  same : ∀ k, k < W.heap.size → k ≠ c → (k < N ∨ ∃ cs t fz, W.heap[k]? = some (.cells cs t fz)) → W'.heap[k]? = W.heap[k]?
theorem Safe.putObj {N c : Nat} {W : World} {l : Nat} (o : Obj) (hl : N ≤ l) (h : ∀ cs t fz, W.heap[l]? ≠ some (.cells cs t fz)) : Safe N c W (W.putObj l o) where
  os := rfl
  tape := rfl
  output := rfl
  size := by simp
  same := by
    intro k _ _ hk
    refine World.putObj_heap_other ?_
    rintro rfl
    rcases hk with hk | ⟨cs, t, fz, hk⟩
    · omega
    · exact h _ _ _ hk
theorem Safe.alloc {N c : Nat} (W : World) (o : Obj) : Safe N c W (W.alloc o) where
  os := rfl
  tape := rfl
  output := rfl
  size := by simp
  same := fun k hk _ _ => Below.heap_alloc W o k hk
theorem Safe.setCell {N c : Nat} (W : World) (v : Value) : Safe N c W (W.setCell ⟨c, 0, none⟩ v) where
  os := rfl
  tape := rfl
  output := rfl
  size := by show W.heap.size ≤ (W.heap.modify _ _).size; rw [Array.size_modify]; exact Nat.le_refl _
  same := fun k _ hc _ => Below.heap_setCell W ⟨c, 0, none⟩ v k hc
theorem Safe.trans {N c : Nat} {A B C : World} (h : Safe N c A B) (k : Safe N c B C) : Safe N c A C where
  os := k.os.trans h.os
  tape := k.tape.trans h.tape
  output := k.output.trans h.output
  size := Nat.le_trans h.size k.size
  same := fun i hi hc hx => by
    have e := h.same i hi hc hx
    rw [← e]
    refine k.same i (Nat.lt_of_lt_of_le hi h.size) hc ?_
    rcases hx with hx | ⟨cs, t, fz, hx⟩
    · exact .inl hx
    · exact .inr ⟨cs, t, fz, by rw [e]; exact hx⟩
theorem Safe.cell {N c : Nat} {W W' : World} (h : Safe N c W W') {a : Addr} {v : Value} (hc : a.block ≠ c) (hv : W.cell? a = some v) : W'.cell? a = some v := by
  unfold World.cell? at hv ⊢
  cases ho : W.heap[a.block]? with
  | none => rw [ho] at hv; cases hv
  | some o =>
    have hlt := (Array.getElem?_eq_some_iff.1 ho).1
    cases o with
    | cells cs t fz => rw [h.same a.block hlt hc (.inr ⟨_, _, _, ho⟩), ho]; rw [ho] at hv; exact hv
    | _ => rw [ho] at hv; cases hv
theorem Safe.heap {N c : Nat} {W W' : World} (h : Safe N c W W') {k : Nat} {o : Obj} (hk : k < N) (hc : k ≠ c) (ho : W.heap[k]? = some o) : W'.heap[k]? = some o := by
  rw [h.same k (Array.getElem?_eq_some_iff.1 ho).1 hc (.inl hk)]; exact ho
theorem Safe.cells {N c : Nat} {W W' : World} (h : Safe N c W W') {k : Nat} {cs : Array Value} {t : TypeId} {fz : Nat × Nat} (hc : k ≠ c) (ho : W.heap[k]? = some (.cells cs t fz)) : W'.heap[k]? = some (.cells cs t fz) := by
  rw [h.same k (Array.getElem?_eq_some_iff.1 ho).1 hc (.inr ⟨_, _, _, ho⟩)]; exact ho
theorem Safe.below {N c B : Nat} {W W' : World} (h : Safe N c W W') (hN : B ≤ N) (hB : B ≤ c) (hs : B ≤ W.heap.size) : Below B W W' :=
  ⟨h.os, h.tape, h.output, h.size, fun k hk => h.same k (by omega) (by omega) (.inl (by omega))⟩
theorem Safe.tab {N c : Nat} {W W' : World} (h : Safe N c W W') (hc : 1 ≠ c) (ht : Tab W) : Tab W' :=
  fun i hi => ⟨h.cell hc (ht i hi).1, Nat.lt_of_lt_of_le (ht i hi).2 h.size⟩
theorem tab_below {B : Nat} {W W' : World} (h : Below B W W') (hB : 1 < B) (ht : Tab W) : Tab W' :=
  fun i hi => ⟨by have := h.cell (p := ⟨1, i, none⟩) hB; exact this.trans (ht i hi).1, Nat.lt_of_lt_of_le (ht i hi).2 h.size⟩
structure Keep (l D c : Nat) (W W' : World) : Prop where
  l : W'.heap[l]? = W.heap[l]?
  D : W'.heap[D]? = W.heap[D]?
  c : W'.heap[c]? = W.heap[c]?
def loopPost (l D c : Nat) (I : World → Prop) (Ix : Code → World → Prop) (W : World) : Exit → Act → World → Prop
  | .normal, _, W' => Keep l D c W W' ∧ I W'
  | .ret, _, W' => Keep l D c W W' ∧ Ix .ret W'
  | .exit id, _, W' => Keep l D c W W' ∧ Ix (.exit id) W'
  | .goto t, _, W' => Keep l D c W W' ∧ Ix (.goto t) W'
  | .panic _, _, _ => False
  | .outgrown, _, _ => False
theorem cell_of_heap {W W' : World} {c : Nat} (h : W'.heap[c]? = W.heap[c]?) (a : Addr) (ha : a.block = c) : W'.cell? a = W.cell? a := by
  unfold World.cell?; rw [ha, h]
theorem frozen_of_heap {W W' : World} {c : Nat} (h : W'.heap[c]? = W.heap[c]?) (a : Addr) (ha : a.block = c) : W'.frozen? a = W.frozen? a := by
  unfold World.frozen?; rw [ha, h]
def marked (a : Act) (D : Nat) : Act := { a with defers := { target := .collected D, args := #[] } :: a.defers }
theorem range_each {g : Operand} {t : Tmp} {assign body : Code} {Q : Exit → Act → World → Prop} {a : Act} {w : World} {n c s : Nat} (hs : s < 4096)
    (hg : a.eval g = .func (.func 88) #[] #[.pointer (some ⟨c, 0, none⟩)])
    (hc : w.cell? ⟨c, 0, none⟩ = some (.int .u64 (s : Int))) (hf : w.frozen? ⟨c, 0, none⟩ = false) (hcl : c < w.heap.size)
    (I : List Nat → World → Prop) (Ix : Code → World → Prop)
    (hI : ∀ pre W W', I pre W → Safe w.heap.size c W W' → I pre W') (hIx : ∀ k W W', Ix k W → Safe w.heap.size c W W' → Ix k W')
    (hT : ∀ pre W, I pre W → Tab W) (h0 : I [] w) (a₁ : Nat → Act)
    (hassign : ∀ (l x : Nat) (W : World) (K : Act → World → Prop), K (a₁ x) W → assign.wpIn (Fence.wide.inRound l) n Tryd.prog (Exit.then K (fun _ _ _ => False)) { tmps := a.tmps.setIfInBounds t (.int .i64 (x : Int)), defers := [] } W)
    (hbody : ∀ (l D : Nat) (pre : List Nat) (x : Nat) (rest : List Nat) (W : World), w.heap.size ≤ D → D < l → l < W.heap.size → pre ++ x :: rest = bitsOf s → I pre W →
      (∀ cs ty fz, W.heap[l]? ≠ some (.cells cs ty fz)) → (∀ cs ty fz, W.heap[D]? ≠ some (.cells cs ty fz)) →
      body.wpIn (Fence.wide.inRound l) n Tryd.prog (loopPost l D c (I (pre ++ [x])) Ix W) (a₁ x) W)
    (hdone : ∀ (D : Nat) (W : World), w.heap.size ≤ D → I (bitsOf s) W → W.heap[D]? = some (.deferred (some [])) → Q .normal (marked a D) W)
    (hstop : ∀ (D : Nat) (k : Code) (W : World), w.heap.size ≤ D → Ix k W → W.heap[D]? = some (.deferred (some [])) → k.wpIn Fence.wide (n + 2) Tryd.prog Q (marked a D) W) :
    (Code.rangeFunc g #[t] assign body).wpIn Fence.wide (n + 2) Tryd.prog Q a w := by
  refine wpIn_rangeFunc ?_
  intro fn hfn
  obtain ⟨rec, hrec⟩ : ∃ rec : LoopState → Option Code → Loop, rec = fun st pe => { state := st, pending := pe, fn, tmps := a.tmps, params := #[t], assign, body, defers := w.heap.size } := ⟨_, rfl⟩
  obtain ⟨W1, hW1⟩ : ∃ W1, (w.alloc (.deferred (some []))).alloc (.loop (rec .ready none)) = W1 := ⟨_, rfl⟩
  have hL1 : W1.heap[w.heap.size + 1]? = some (.loop (rec .ready none)) := by
    rw [← hW1]; have := World.alloc_heap_new (w.alloc (.deferred (some []))) (.loop (rec .ready none)); rwa [World.size_alloc] at this
  have hK1 : W1.heap[w.heap.size]? = some (.deferred (some [])) := by
    rw [← hW1]; exact (Below.heap_alloc _ _ _ (by simp)).trans (World.alloc_heap_new w _)
  have hS1 : Safe w.heap.size c w W1 := by rw [← hW1]; exact (Safe.alloc _ _).trans (Safe.alloc _ _)
  have hc1 : W1.heap[c]? = w.heap[c]? := by
    rw [← hW1]; exact (Below.heap_alloc _ _ _ (by simp; omega)).trans (Below.heap_alloc _ _ _ hcl)
  refine ⟨w.heap.size + 1, [{ target := .collected w.heap.size, args := #[] }], W1, { target := .fn (.func 88) #[.pointer (some ⟨c, 0, none⟩)], args := #[.func (.yield (w.heap.size + 1)) #[] #[]] }, W1, 88,
    #[.func (.yield (w.heap.size + 1)) #[] #[], .pointer (some ⟨c, 0, none⟩)], W1, ?_, ?_, ?_, ?_, fun h => by simp [Fence.wide] at h, ?_⟩
  · rw [← hW1, hrec]; exact run_enterLoop_outer _ _ _ _ _
  · simp only [resolve, hg]
    simp [go_sem]
  · intro f' hf'; trivial
  · have e88 : ∀ (args : Array Value) (w : World), (callFunc 88 args).run Tryd.prog w = .ok (.enter 88 args) w := enters_of Tryd.func88 (by kernel_rfl) rfl
    simp [invoke, go_sem, e88]
  · have hne : w.heap.size + 1 ≠ c := by omega
    have hne2 : w.heap.size ≠ c := by omega
    refine (each1_in n (w.heap.size + 1) c s hs
      (fun pre W => I pre W ∧ W.heap[w.heap.size + 1]? = some (.loop (rec .ready none)) ∧ W.heap[w.heap.size]? = some (.deferred (some [])))
      (fun _ W => ∃ k, Ix k W ∧ W.heap[w.heap.size + 1]? = some (.loop (rec .done (some k))) ∧ W.heap[w.heap.size]? = some (.deferred (some [])))
      (fun pre W v h => ⟨hI _ _ _ h.1 (Safe.setCell _ _), (Below.heap_setCell W ⟨c, 0, none⟩ v _ hne).trans h.2.1, (Below.heap_setCell W ⟨c, 0, none⟩ v _ hne2).trans h.2.2⟩)
      (fun pre W h => hT _ _ h.1) ?_ W1 ((cell_of_heap hc1 _ rfl).trans hc) ((frozen_of_heap hc1 _ rfl).trans hf) ⟨hI _ _ _ h0 hS1, hL1, hK1⟩).mono ?_
    · rintro pre x rest W hpre ⟨hi, hl, hk⟩
      have hlt : w.heap.size + 1 < W.heap.size := (Array.getElem?_eq_some_iff.1 hl).1
      have hy : (Instr.yield (w.heap.size + 1) #[.int .i64 (x : Int)]).run Tryd.prog W = .ok (.round (w.heap.size + 1) fn (a.tmps.setIfInBounds t (.int .i64 (x : Int))) assign body) W := by
        have h := run_yield (P := Tryd.prog) (args := #[.int .i64 (x : Int)]) hl (by rw [hrec]; rfl)
        rw [hrec] at h
        rw [h]
        simp
      refine ⟨fn, _, assign, body, hy, roundIn_of_wpIn hfn ?_⟩
      refine hassign _ x W _ ?_
      refine ⟨_, run_beginRound hl (by rw [hrec]), ?_⟩
      have hl2 : (W.putObj (w.heap.size + 1) (.loop { rec .ready none with state := .busy })).heap[w.heap.size + 1]? = some (.loop { rec .ready none with state := .busy }) := World.putObj_heap_same hlt
      have hk2 : (W.putObj (w.heap.size + 1) (.loop { rec .ready none with state := .busy })).heap[w.heap.size]? = some (.deferred (some [])) := (World.putObj_heap_other (by omega)).trans hk
      have hcc2 : (W.putObj (w.heap.size + 1) (.loop { rec .ready none with state := .busy })).heap[c]? = W.heap[c]? := World.putObj_heap_other (by omega)
      refine wpIn_mono (hbody (w.heap.size + 1) w.heap.size pre x rest _ (Nat.le_refl _) (Nat.lt_succ_self _) (by simp; exact hlt) hpre (hI _ _ _ hi (Safe.putObj _ (by omega) (by rw [hl]; intro _ _ _ h; cases h)))
        (by rw [hl2]; intro _ _ _ h; cases h) (by rw [hk2]; intro _ _ _ h; cases h)) ?_
      have fin : ∀ (jump : Option Code) (W3 : World), Keep (w.heap.size + 1) w.heap.size c (W.putObj (w.heap.size + 1) (.loop { rec .ready none with state := .busy })) W3 →
          (Instr.endRound (w.heap.size + 1) jump).run Tryd.prog W3 = .ok (.bool jump.isNone) (W3.putObj (w.heap.size + 1) (.loop (rec (if jump.isNone then .ready else .done) jump))) ∧
          Safe w.heap.size c W3 (W3.putObj (w.heap.size + 1) (.loop (rec (if jump.isNone then .ready else .done) jump))) ∧
          (W3.putObj (w.heap.size + 1) (.loop (rec (if jump.isNone then .ready else .done) jump))).heap[w.heap.size + 1]? = some (.loop (rec (if jump.isNone then .ready else .done) jump)) ∧
          (W3.putObj (w.heap.size + 1) (.loop (rec (if jump.isNone then .ready else .done) jump))).heap[w.heap.size]? = some (.deferred (some [])) ∧
          (W3.putObj (w.heap.size + 1) (.loop (rec (if jump.isNone then .ready else .done) jump))).heap[c]? = W.heap[c]? := fun jump W3 hk3 => by
        have hl3 := hk3.l.trans hl2
        have := run_endRound (P := Tryd.prog) jump hl3
        rw [hrec] at this ⊢
        refine ⟨this, Safe.putObj _ (by omega) (by rw [hl3]; intro _ _ _ h; cases h), World.putObj_heap_same (Array.getElem?_eq_some_iff.1 hl3).1, (World.putObj_heap_other (by omega)).trans (hk3.D.trans hk2), (World.putObj_heap_other (by omega)).trans (hk3.c.trans hcc2)⟩
      rintro e a3 W3 hp
      cases e with
      | normal =>
        obtain ⟨hk3, hi3⟩ := hp
        obtain ⟨hr, hs3, hl4, hk4, hc4⟩ := fin none W3 hk3
        exact ⟨_, _, hr, .inl ⟨rfl, ⟨hI _ _ _ hi3 hs3, hl4, hk4⟩, cell_of_heap hc4 _ rfl, frozen_of_heap hc4 _ rfl⟩⟩
      | ret =>
        obtain ⟨hk3, hi3⟩ := hp
        obtain ⟨hr, hs3, hl4, hk4, _⟩ := fin (some .ret) W3 hk3
        exact ⟨_, _, hr, .inr ⟨rfl, .ret, hIx _ _ _ hi3 hs3, hl4, hk4⟩⟩
      | exit id =>
        obtain ⟨hk3, hi3⟩ := hp
        obtain ⟨hr, hs3, hl4, hk4, _⟩ := fin (some (.exit id)) W3 hk3
        exact ⟨_, _, hr, .inr ⟨rfl, .exit id, hIx _ _ _ hi3 hs3, hl4, hk4⟩⟩
      | goto t' =>
        obtain ⟨hk3, hi3⟩ := hp
        obtain ⟨hr, hs3, hl4, hk4, _⟩ := fin (some (.goto t')) W3 hk3
        exact ⟨_, _, hr, .inr ⟨rfl, .goto t', hIx _ _ _ hi3 hs3, hl4, hk4⟩⟩
      | panic ch => exact hp.elim
      | outgrown => exact hp.elim
    · rintro e W2 ⟨⟨v, rfl⟩, (⟨hi, hl, hk⟩ | ⟨_, k, hi, hl, hk⟩)⟩
      · exact ⟨none, _, by have := run_endLoop (P := Tryd.prog) hl (by rw [hrec]; simp); rw [hrec] at this; exact this,
          hdone _ _ (Nat.le_refl _) (hI _ _ _ hi (Safe.putObj _ (by omega) (by rw [hl]; intro _ _ _ h; cases h))) ((World.putObj_heap_other (by omega)).trans hk)⟩
      · exact ⟨some k, _, by have := run_endLoop (P := Tryd.prog) hl (by rw [hrec]; simp); rw [hrec] at this; exact this,
          hstop _ k _ (Nat.le_refl _) (hIx _ _ _ hi (Safe.putObj _ (by omega) (by rw [hl]; intro _ _ _ h; cases h))) ((World.putObj_heap_other (by omega)).trans hk)⟩
end Go.Proofs.YtpbeaaihdmfnlaaDoor.H

/- ### Qr -/
namespace Go.Proofs.YtpbeaaihdmfnlaaDoor.H
open Go Go.RowKit
section
variable {F : Fence} {n : Nat} {P : Program} {l₀ : Nat}
def noDefer (o : Oper) : Bool := match o.op with | .defer _ => false | _ => true
theorem noDefer_spec {o : Oper} (h : noDefer o = true) : ∀ c, o.op ≠ .defer c := by
  intro c hc; unfold noDefer at h; rw [hc] at h; cases h
theorem oper_round {o : Oper} {a : Act} {w : World} {K : Act → World → Prop} {Q : Exit → Act → World → Prop} (hro : F.round = none) (hd : noDefer o = true) (h : o.wpIn F n P a w K Q) : o.wpIn (F.inRound l₀) n P a w K Q := by
  unfold Oper.wpIn at *
  refine ⟨h.1, ?_⟩
  have h2 := h.2
  rw [hro, Oper.semAt_none] at h2
  rw [Fence.inRound_round, Oper.semAt_some l₀ _ _ (noDefer_spec hd)]
  exact h2
theorem op_round {ops : Array Oper} {i : Nat} {a : Act} {w : World} {K K' : Act → World → Prop} {Q : Exit → Act → World → Prop} (hro : F.round = none) (hd : ops.all noDefer = true) (hK : ∀ a w, K a w → K' a w)
    (h : wpOpIn F n P ops Q i K a w) : wpOpIn (F.inRound l₀) n P ops Q i K' a w := by
  unfold wpOpIn at *
  split
  · rename_i ho; simp only [ho] at h; exact hK _ _ h
  · rename_i o ho
    simp only [ho] at h
    have hdo : noDefer o = true := by
      obtain ⟨hlt, e⟩ := Array.getElem?_eq_some_iff.1 ho
      rw [← e]; exact (Array.all_eq_true.1 hd) i hlt
    split
    · rename_i hw; simp only [hw, if_true] at h; exact oper_round hro hdo (Oper.wpIn_mono hK h)
    · rename_i hw; simp only [hw] at h; exact ⟨h.1, hK _ _ h.2⟩
theorem any_round {md : Region.Mode} {ops : Array Oper} {Q : Exit → Act → World → Prop} (hro : F.round = none) (hd : ops.all noDefer = true) : ∀ (fuel : Nat) (listed : Array Bool) (a : Act) (w : World),
    wpAnyIn F n P md ops Q fuel listed a w → wpAnyIn (F.inRound l₀) n P md ops Q fuel listed a w
  | 0, _, _, _, h => h
  | fuel + 1, _, _, _, h => ⟨h.1, fun i hi => op_round hro hd (fun a w => any_round hro hd fuel _ a w) (h.2 i hi)⟩
theorem quiet_round {id : Nat} {Q : Exit → Act → World → Prop} {a : Act} {w : World} {l : List Oper} (hro : F.round = none) (hm : P.follows .mixedOrders = true) (hB : Region.lexB .any l.toArray = true) (hd : l.toArray.all noDefer = true)
    (h : wpQuietIn F n P l.toArray (fun w' => ∃ n, w' = w.drewN n) (fun a' => ∀ w', (∃ n, w' = w.drewN n) → Q .normal a' w') l a) : (Code.region id l.toArray true).wpIn (F.inRound l₀) n P Q a w := by
  obtain ⟨b1, b2⟩ : Region.noSelect l.toArray = true ∧ Region.lexFrom .any l.toArray l.toArray.size 0 (Array.replicate l.toArray.size false) = true := by
    simpa [Region.lexB] using hB
  refine wpIn_region_any hm (any_round hro hd _ _ _ _ (wpAnyIn_of_quiet (C := fun w' => ∃ n, w' = w.drewN n) (Q := fun a' => ∀ w', (∃ n, w' = w.drewN n) → Q .normal a' w') hro (fun _ w' hw' h => h w' hw') _ _ _ _ ⟨1, rfl⟩ ?_))
  have z := wpAnyQIn_lex (F := F) (n := n) (C := fun w' => ∃ n, w' = w.drewN n) (md := .any) b1 l 0 (Array.replicate l.toArray.size false) a (by simp) (by simpa using b2) h
  simpa using z
end
end Go.Proofs.YtpbeaaihdmfnlaaDoor.H

/- ### Wa -/
namespace Go.Proofs.YtpbeaaihdmfnlaaDoor.H
open Go Go.RowKit Go.Shelf Go.Proofs.YtpbeaaihdmfnlaaDoor.M
attribute [local go_sem] Oper.semAt_some
def forcedStep (near : Nat → Nat) (s out v : Nat) : Nat := if card (andNot (near v) s) = 1 then out ||| andNot (near v) s else out
def forcedL (near : Nat → Nat) (s : Nat) (l : List Nat) : Nat := l.foldl (forcedStep near s) 0
def forcedM (near : Nat → Nat) (s : Nat) : Nat := forcedL near s (bitsOf s)
theorem forcedL_snoc (near : Nat → Nat) (s : Nat) (l : List Nat) (v : Nat) : forcedL near s (l ++ [v]) = forcedStep near s (forcedL near s l) v := by
  simp [forcedL, List.foldl_append]
theorem forcedL_lt {near : Nat → Nat} {s k : Nat} (hn : ∀ v, near v < 2 ^ k) (l : List Nat) : forcedL near s l < 2 ^ k := by
  suffices h : ∀ (l : List Nat) (a : Nat), a < 2 ^ k → l.foldl (forcedStep near s) a < 2 ^ k from h l 0 (Nat.two_pow_pos k)
  intro l
  induction l with
  | nil => exact fun a h => h
  | cons v l ih =>
    intro a h
    simp only [List.foldl_cons]
    apply ih
    unfold forcedStep
    split
    · exact Nat.or_lt_two_pow h (andNot_lt (hn v))
    · exact h
/-- The cells of a graph's box. -/
theorem near_cell (g : Gr) {W : World} {B : Nat} (h : W.heap[B]? = some (.cells g.cells 81)) (v : Nat) (hv : v < 12) : W.cell? ⟨B, 1 + v, none⟩ = some (.int .u64 ((g.near v : Nat) : Int)) := by
  unfold World.cell?
  rw [h]
  have : ∀ v, v < 12 → v = 0 ∨ v = 1 ∨ v = 2 ∨ v = 3 ∨ v = 4 ∨ v = 5 ∨ v = 6 ∨ v = 7 ∨ v = 8 ∨ v = 9 ∨ v = 10 ∨ v = 11 := by omega
  rcases this v hv with rfl | rfl | rfl | rfl | rfl | rfl | rfl | rfl | rfl | rfl | rfl | rfl <;> rfl
theorem one_cell {W : World} {B : Nat} {x : Value} {t : TypeId} (h : W.heap[B]? = some (.cells #[x] t)) : W.cell? ⟨B, 0, none⟩ = some x := by
  unfold World.cell?; rw [h]; rfl
theorem one_frozen {W : World} {B : Nat} {cs : Array Value} {t : TypeId} (h : W.heap[B]? = some (.cells cs t)) (o : Nat) : W.frozen? ⟨B, o, none⟩ = false := by
  unfold World.frozen?; rw [h]; simp
theorem lay1 (w : World) (o0 : Obj) : (w.alloc o0).heap[w.heap.size]? = some o0 ∧ (w.alloc o0).heap.size = w.heap.size + 1 ∧ Below w.heap.size w (w.alloc o0) :=
  ⟨World.alloc_heap_new _ _, World.size_alloc _ _, (Below.refl _ _).alloc (Nat.le_refl _) _⟩
theorem lay2 (w : World) (o0 o1 : Obj) : ((w.alloc o0).alloc o1).heap[w.heap.size]? = some o0 ∧ ((w.alloc o0).alloc o1).heap[w.heap.size + 1]? = some o1 ∧
    ((w.alloc o0).alloc o1).heap.size = w.heap.size + 1 + 1 ∧ Below w.heap.size w ((w.alloc o0).alloc o1) := by
  obtain ⟨a, b, c⟩ := lay1 w o0
  obtain ⟨a', b', c'⟩ := lay1 (w.alloc o0) o1
  rw [b] at a' b'
  exact ⟨(c'.block _ (by omega)).trans a, a', b', c.trans (c'.mono (by omega))⟩
theorem lay3 (w : World) (o0 o1 o2 : Obj) : (((w.alloc o0).alloc o1).alloc o2).heap[w.heap.size]? = some o0 ∧ (((w.alloc o0).alloc o1).alloc o2).heap[w.heap.size + 1]? = some o1 ∧
    (((w.alloc o0).alloc o1).alloc o2).heap[w.heap.size + 1 + 1]? = some o2 ∧
    (((w.alloc o0).alloc o1).alloc o2).heap.size = w.heap.size + 1 + 1 + 1 ∧ Below w.heap.size w (((w.alloc o0).alloc o1).alloc o2) := by
  obtain ⟨a, b, d, c⟩ := lay2 w o0 o1
  obtain ⟨a', b', c'⟩ := lay1 ((w.alloc o0).alloc o1) o2
  rw [d] at a' b'
  exact ⟨(c'.block _ (by omega)).trans a, (c'.block _ (by omega)).trans b, a', b', c.trans (c'.mono (by omega))⟩
theorem lay4 (w : World) (o0 o1 o2 o3 : Obj) : ((((w.alloc o0).alloc o1).alloc o2).alloc o3).heap[w.heap.size]? = some o0 ∧ ((((w.alloc o0).alloc o1).alloc o2).alloc o3).heap[w.heap.size + 1]? = some o1 ∧
    ((((w.alloc o0).alloc o1).alloc o2).alloc o3).heap[w.heap.size + 1 + 1]? = some o2 ∧ ((((w.alloc o0).alloc o1).alloc o2).alloc o3).heap[w.heap.size + 1 + 1 + 1]? = some o3 ∧
    ((((w.alloc o0).alloc o1).alloc o2).alloc o3).heap.size = w.heap.size + 1 + 1 + 1 + 1 ∧ Below w.heap.size w ((((w.alloc o0).alloc o1).alloc o2).alloc o3) := by
  obtain ⟨a, b, d, e, c⟩ := lay3 w o0 o1 o2
  obtain ⟨a', b', c'⟩ := lay1 (((w.alloc o0).alloc o1).alloc o2) o3
  rw [e] at a' b'
  exact ⟨(c'.block _ (by omega)).trans a, (c'.block _ (by omega)).trans b, (c'.block _ (by omega)).trans d, a', b', c.trans (c'.mono (by omega))⟩
/-- A graph, a set and a number lie in boxes of their own. -/
structure Boxes3 (g : Gr) (s out : Nat) (w W : World) : Prop where
  g : W.heap[w.heap.size]? = some (.cells g.cells 81)
  s : W.heap[w.heap.size + 1]? = some (.cells #[.int .u64 ((s : Nat) : Int)] 78)
  out : W.heap[w.heap.size + 1 + 1]? = some (.cells #[.int .u64 ((out : Nat) : Int)] 78)
  tab : Tab W
  below : Below w.heap.size w W
theorem Boxes3.safe {g : Gr} {s out : Nat} {w W W' : World} {N c : Nat} (h : Boxes3 g s out w W) (k : Safe N c W W') (hN : w.heap.size + 2 < N) (hc : w.heap.size + 2 < c) (h1 : 1 < w.heap.size) : Boxes3 g s out w W' where
  g := k.heap (by omega) (by omega) h.g
  s := k.heap (by omega) (by omega) h.s
  out := k.heap (by omega) (by omega) h.out
  tab := k.tab (by omega) h.tab
  below := h.below.trans (k.below (by omega) (by omega) h.below.size)
theorem heap_store_one {W : World} {b : Nat} {x v : Value} {t : TypeId} (h : W.heap[b]? = some (.cells #[x] t)) : (W.setCell ⟨b, 0, none⟩ v).heap[b]? = some (.cells #[v] t) := by
  obtain ⟨hlt, e⟩ := Array.getElem?_eq_some_iff.1 h
  show (W.heap.modify b _)[b]? = _
  rw [Array.getElem?_eq_getElem (by rw [Array.size_modify]; exact hlt), Array.getElem_modify_self, e]
  rfl
theorem tab_same {W W' : World} (h : W'.heap[1]? = W.heap[1]?) (hs : W.heap.size ≤ W'.heap.size) (ht : Tab W) : Tab W' :=
  fun i hi => ⟨(cell_of_heap h _ rfl).trans (ht i hi).1, Nat.lt_of_lt_of_le (ht i hi).2 hs⟩
theorem size_setCell (W : World) (a : Addr) (v : Value) : (W.setCell a v).heap.size = W.heap.size := by
  show (W.heap.modify _ _).size = _; rw [Array.size_modify]
theorem Boxes3.store {g : Gr} {s out : Nat} {w W : World} (h : Boxes3 g s out w W) (h1 : 1 < w.heap.size) (nq v : Nat) {l D c : Nat} (hD : w.heap.size + 2 < D) (hl : D < l) (hc : w.heap.size + 2 < c) :
    Keep l D c W ((W.drewN nq).setCell ⟨w.heap.size + 1 + 1, 0, none⟩ (.int .u64 (v : Int))) ∧ Boxes3 g s v w ((W.drewN nq).setCell ⟨w.heap.size + 1 + 1, 0, none⟩ (.int .u64 (v : Int))) := by
  have e : ∀ k, k ≠ w.heap.size + 1 + 1 → ((W.drewN nq).setCell ⟨w.heap.size + 1 + 1, 0, none⟩ (.int .u64 (v : Int))).heap[k]? = W.heap[k]? := fun k hk => Below.heap_setCell (W.drewN nq) ⟨w.heap.size + 1 + 1, 0, none⟩ _ k hk
  refine ⟨⟨e _ (by omega), e _ (by omega), e _ (by omega)⟩, ⟨(e _ (by omega)).trans h.g, (e _ (by omega)).trans h.s, heap_store_one (W := W.drewN nq) h.out, tab_same (e 1 (by omega)) (by rw [size_setCell]; exact Nat.le_refl _) h.tab, ?_⟩⟩
  have hb : Below w.heap.size w (W.drewN nq) := h.below.trans ⟨rfl, rfl, rfl, Nat.le_refl _, fun _ _ => rfl⟩
  have hle : w.heap.size ≤ (⟨w.heap.size + 1 + 1, 0, none⟩ : Addr).block := by show w.heap.size ≤ w.heap.size + 1 + 1; omega
  exact hb.setCell hle _
theorem Boxes3.stay {g : Gr} {s out : Nat} {w W : World} (h : Boxes3 g s out w W) (nq : Nat) {l D c : Nat} : Keep l D c W (W.drewN nq) ∧ Boxes3 g s out w (W.drewN nq) :=
  ⟨⟨rfl, rfl, rfl⟩, ⟨h.g, h.s, h.out, h.tab, h.below.trans ⟨rfl, rfl, rfl, Nat.le_refl _, fun _ _ => rfl⟩⟩⟩
theorem below_take {B : Nat} {w W : World} (h : Below B w W) {D : Nat} (hD : B ≤ D) (o : Obj) : Below B w (W.putObj D o) :=
  h.trans ⟨rfl, rfl, rfl, by simp, fun k hk => World.putObj_heap_other (by omega)⟩
set_option maxHeartbeats 1000000 in
theorem forced_any (g : Gr) (hg : g.Ok) (s : Nat) (hs : s < 2 ^ g.n) (w : World) (ht : Tab w) : Calls Tryd.prog 59 #[.agg g.cells, .int .u64 s] w fun e w' =>
    e = .returned (.int .u64 ((forcedM g.near s : Nat) : Int)) ∧ Below w.heap.size w w' := by
  have hs' : s < 4096 := Nat.lt_of_lt_of_le hs (Nat.pow_le_pow_right (by decide) hg.le)
  have h1w : 1 < w.heap.size := (ht 0 (by decide)).2
  refine (callsIn_wide (n := 9)).1 ?_
  refine callsIn_of_wp_marks Tryd.func59 rfl trivial ?_ rfl
  simp only [Tryd.ntmps59, List.size_toArray, List.length_cons, List.length_nil, Nat.reduceAdd, Nat.reduceSub, Array.replicate_succ, Array.replicate_zero, List.push_toArray, List.append_toArray, List.nil_append, List.cons_append]
  have HG := Lib.hid hg
  have HS := Lib.hid hs
  have HT := Lib.hid ht
  clear hg hs ht
  gi_wp2_with fail
  refine ⟨trivial, (callsIn_wide.2 (each_any s _)).mono ?_⟩
  rintro e w' ⟨rfl, rfl⟩
  gi_wp2_with fail
  obtain ⟨f0, f1, f2, f3, f4, f5⟩ := lay4 w (.cells g.cells 81) (.cells #[.int .u64 ((s : Nat) : Int)] 78) (.cells #[.int .u64 0] 78) (.cells #[.int .u64 ((s : Nat) : Int)] 78)
  generalize ((((w.alloc (Obj.cells g.cells 81)).alloc (Obj.cells #[Value.int IntKind.u64 ↑s] 78)).alloc (Obj.cells #[Value.int IntKind.u64 0] 78)).alloc (Obj.cells #[Value.int IntKind.u64 ↑s] 78)) = W0 at f0 f1 f2 f3 f4 f5 ⊢
  refine range_each (n := 7) (c := w.heap.size + 1 + 1 + 1) hs' rfl (one_cell f3) (one_frozen f3 0) (by omega)
    (fun pre W => Boxes3 g s (forcedL g.near s pre) w W) (fun _ _ => False) (fun pre W W' h k => h.safe k (by omega) (by omega) h1w) (fun _ _ _ h _ => h) (fun _ _ h => h.tab)
    ⟨f0, f1, f2, tab_below f5 h1w HT.out, f5⟩
    (fun x => { tmps := #[.agg g.cells, .int .u64 s, .pointer (some ⟨w.heap.size, 0, none⟩), .pointer (some ⟨w.heap.size + 1, 0, none⟩), .int .u64 0, .pointer (some ⟨w.heap.size + 1 + 1, 0, none⟩), .int .i64 (x : Int), undef, .int .u64 s,
      .func (.func 88) #[] #[.pointer (some ⟨w.heap.size + 1 + 1 + 1, 0, none⟩)], .int .i64 (x : Int), undef, undef, undef, undef, undef, undef, undef, undef, undef, undef, undef, undef, undef], defers := [] }) ?assign ?body ?done ?stop
  case assign =>
    intro l x W K hK
    gi_wp2
    exact hK
  case body =>
    intro l D pre x rest W hD hDl hlW hpre hb hnl hnD
    have hx : s.testBit x = true := (mem_bitsOf.1 (by rw [← hpre]; simp)).2
    have hx12 : x < 12 := Nat.lt_of_lt_of_le (bit_lt HS.out hx) HG.out.le
    have cn := near_cell g hb.g x hx12
    have cs := one_cell hb.s
    have co := one_cell hb.out
    have fo := one_frozen hb.out 0
    have hx0 : (0 : Int) ≤ (x : Int) := by omega
    have hx1 : (x : Int) < 12 := by omega
    have hnx : g.near x < 2 ^ g.n := HG.out.near x
    have hnx' : g.near x < 2 ^ 64 := Nat.lt_of_lt_of_le hnx (Nat.pow_le_pow_right (by decide) (by have := HG.out.le; omega))
    have hd12 : andNot (g.near x) s < 4096 := Nat.lt_of_lt_of_le (andNot_lt hnx) (Nat.pow_le_pow_right (by decide) HG.out.le)
    have ho12 : forcedL g.near s pre < 4096 := Nat.lt_of_lt_of_le (forcedL_lt HG.out.near pre) (Nat.pow_le_pow_right (by decide) HG.out.le)
    have HE := Lib.hid (M.nu_andNot (g.near x) s hnx')
    have HO := Lib.hid (M.nu_or (forcedL g.near s pre) (andNot (g.near x) s) (by omega) (by omega))
    have HB := Lib.hid hb
    have HP := Lib.hid hpre
    clear hb hpre hx hnx hnx'
    gi_wp2_with fail
    refine quiet_round rfl (by kernel_rfl) (by kernel_rfl) (by kernel_rfl) ?_
    repeat (gi_big_quiet_step (fail))
    refine wpQuietIn_nil ?_
    rintro _ ⟨nq, rfl⟩
    rw [HE.out]
    gi_wp2_with fail
    refine ⟨trivial, (CallsIn.inRound l (callsIn_wide.2 (size_any _ hd12 _))).mono ?_⟩
    rintro e w' ⟨rfl, rfl⟩
    by_cases hcd : card (andNot (g.near x) s) = 1
    · have hcb : ((card (andNot (g.near x) s) : Int) == 1) = true := by rw [beq_iff_eq]; omega
      have HC := Lib.hid hcd
      clear hcd
      gi_wp2
      rw [HO.out]
      have z := HB.out.store h1w nq (forcedL g.near s pre ||| andNot (g.near x) s) (l := l) (D := D) (c := w.heap.size + 1 + 1 + 1) (by omega) hDl (by omega)
      rw [forcedL_snoc, forcedStep, if_pos HC.out]
      exact z
    · have hcb : ((card (andNot (g.near x) s) : Int) == 1) = false := by rw [beq_eq_false_iff_ne]; omega
      have HC := Lib.hid hcd
      clear hcd
      gi_wp2
      have z := HB.out.stay nq (l := l) (D := D) (c := w.heap.size + 1 + 1 + 1)
      rw [forcedL_snoc, forcedStep, if_neg HC.out]
      exact z
  case done =>
    intro D W hD hb hDD
    have co := one_cell hb.out
    have HB := Lib.hid hb
    clear hb
    unfold marked
    gi_wp2
    refine ⟨by simp, .inl ⟨_, _, rfl, run_takeDeferred hDD, ?_⟩⟩
    exact ⟨_, results_tmp rfl _ _ _, rfl, below_take HB.out.below (by omega) _⟩
  case stop => exact fun _ _ _ _ h _ => h.elim
end Go.Proofs.YtpbeaaihdmfnlaaDoor.H

/- ### Wb -/
namespace Go.Proofs.YtpbeaaihdmfnlaaDoor.H
open Go Go.RowKit Go.Shelf Go.Proofs.YtpbeaaihdmfnlaaDoor.M
attribute [local go_sem] Oper.semAt_some
theorem wide_fn (f : FuncId) : Fence.wide.fn f = True := rfl
attribute [local go_sem] wide_fn
/-- The cells of a block. -/
def cellsAt (W : World) (B : Nat) : Array Value := match W.heap[B]? with
  | some (.cells cs _ _) => cs
  | _ => #[]
/-- A block of thirteen cells: a graph's box. -/
def rowOk (W : World) (B : Nat) : Bool := match W.heap[B]? with
  | some (.cells cs _ _) => cs.size == 13
  | _ => false
theorem run_load81 (W : World) (B : Nat) (h : rowOk W B = true) : (loadVar 81 ⟨B, 0, none⟩).run Tryd.prog W = .ok (.agg (cellsAt W B)) W := by
  unfold rowOk at h
  unfold cellsAt
  cases ho : W.heap[B]? with
  | none => rw [ho] at h; cases h
  | some o =>
    cases o with
    | cells cs t fr =>
      rw [ho] at h
      have e : cs.size = 13 := by simpa using h
      have hi : (Tryd.prog.info? 81).map (·.size) = some cs.size := by rw [e]; kernel_rfl
      exact run_loadVar_row W B t 81 cs fr _ ho Tryd.underlying81 rfl hi
    | _ => rw [ho] at h; cases h
theorem rowOk_drew (W : World) (B : Nat) : rowOk W.drew B = rowOk W B := rfl
theorem cellsAt_drew (W : World) (B : Nat) : cellsAt W.drew B = cellsAt W B := rfl
theorem rowOk_of {W : World} {B : Nat} {g : Gr} {t : TypeId} (h : W.heap[B]? = some (.cells g.cells t)) : rowOk W B = true := by unfold rowOk; rw [h]; rfl
theorem cellsAt_of {W : World} {B : Nat} {cs : Array Value} {t : TypeId} (h : W.heap[B]? = some (.cells cs t)) : cellsAt W B = cs := by unfold cellsAt; rw [h]
/-- A whole graph is read out of its box. -/
def loadRow (v : Value) : Sem Value := Instr.loadAt 81 v
theorem loadAt81 (v : Value) : Instr.loadAt 81 v = loadRow v := rfl
theorem run_loadRow (W : World) (B : Nat) (h : rowOk W B = true) : (loadRow (.pointer (some ⟨B, 0, none⟩))).run Tryd.prog W = .ok (.agg (cellsAt W B)) W := by
  unfold loadRow
  simp only [Instr.loadAt, Instr.sureAddr, Sem.run_bind, Sem.run_pure, Result.andThen_ok, run_load81 W B h]
attribute [local go_sem ↓ high] loadAt81
attribute [local go_sem] rowOk_drew cellsAt_drew run_loadRow
/-- What holds where a piece of code ends as it should. -/
def Mid (R : Act → World → Prop) : Exit → Act → World → Prop
  | .normal, a, w => R a w
  | _, _, _ => False
theorem Mid.then {R K : Act → World → Prop} {Q : Exit → Act → World → Prop} (h : ∀ a w, R a w → K a w) : ∀ e a w, Mid R e a w → Exit.then K Q e a w := by
  intro e a w hm
  cases e with
  | normal => exact h a w hm
  | _ => exact hm.elim
def soakedStep (near : Nat → Nat) (r : Int) (s out v : Nat) : Nat := if r ≤ (card (near v &&& s) : Int) then out ||| 2 ^ v else out
def soakedL (near : Nat → Nat) (r : Int) (s : Nat) (l : List Nat) : Nat := l.foldl (soakedStep near r s) 0
def soakedM (n : Nat) (near : Nat → Nat) (r : Int) (s : Nat) : Nat := soakedL near r s (bitsOf (andNot (full n) s))
theorem soakedL_snoc (near : Nat → Nat) (r : Int) (s : Nat) (l : List Nat) (v : Nat) : soakedL near r s (l ++ [v]) = soakedStep near r s (soakedL near r s l) v := by
  simp [soakedL, List.foldl_append]
theorem soakedL_lt {near : Nat → Nat} {r : Int} {s k : Nat} (l : List Nat) (hl : ∀ v ∈ l, v < k) : soakedL near r s l < 2 ^ k := by
  suffices h : ∀ (l : List Nat) (a : Nat), (∀ v ∈ l, v < k) → a < 2 ^ k → l.foldl (soakedStep near r s) a < 2 ^ k from h l 0 hl (Nat.two_pow_pos k)
  intro l
  induction l with
  | nil => exact fun a _ h => h
  | cons v l ih =>
    intro a hl h
    simp only [List.foldl_cons]
    apply ih _ (fun v hv => hl v (List.mem_cons_of_mem _ hv))
    unfold soakedStep
    split
    · exact Nat.or_lt_two_pow h (Nat.pow_lt_pow_right (by decide) (hl v List.mem_cons_self))
    · exact h
theorem size_val (y : Int) (x : Nat) (hy : y = (x : Int)) (hx : x < 4096) (w : World) : Calls Tryd.prog 80 #[.int .u64 y] w fun e w' => e = .returned (.int .i64 (card x)) ∧ w' = w := by
  subst hy; exact (size_any x hx w).mono fun _ _ ⟨a, b⟩ => ⟨a, b.symm⟩
set_option maxHeartbeats 1000000 in
theorem soaked1_any (g : Gr) (hg : g.Ok) (s : Nat) (hs : s < 2 ^ g.n) (r : Int) (rb : Nat) (w : World) (ht : Tab w) (hr : w.heap[rb]? = some (.cells #[.int .i64 r] 3)) :
    Calls Tryd.prog 85 #[.agg g.cells, .int .u64 s, .pointer (some ⟨rb, 0, none⟩)] w fun e w' =>
    e = .returned (.int .u64 ((soakedM g.n g.near r s : Nat) : Int)) ∧ Below w.heap.size w w' := by
  have h1w : 1 < w.heap.size := (ht 0 (by decide)).2
  have hrb : rb < w.heap.size := (Array.getElem?_eq_some_iff.1 hr).1
  refine (callsIn_wide (n := 9)).1 ?_
  refine callsIn_of_wp_marks Tryd.func85 rfl trivial ?_ rfl
  simp only [Tryd.ntmps85, List.size_toArray, List.length_cons, List.length_nil, Nat.reduceAdd, Nat.reduceSub, Array.replicate_succ, Array.replicate_zero, List.push_toArray, List.append_toArray, List.nil_append, List.cons_append]
  have HG := Lib.hid hg
  have HS := Lib.hid hs
  have HT := Lib.hid ht
  have HR := Lib.hid hr
  clear hg hs ht hr
  gi_wp2_with fail
  obtain ⟨f0, f1, f2, f4, f5⟩ := lay3 w (.cells g.cells 81) (.cells #[.int .u64 ((s : Nat) : Int)] 78) (.cells #[.int .u64 0] 78)
  generalize (((w.alloc (Obj.cells g.cells 81)).alloc (Obj.cells #[Value.int IntKind.u64 ↑s] 78)).alloc (Obj.cells #[Value.int IntKind.u64 0] 78)) = W0 at f0 f1 f2 f4 f5 ⊢
  have cs := one_cell f1
  have r0 := rowOk_of f0
  have r1 := cellsAt_of f0
  have hmx : Tryd.prog.follows .mixedOrders = true := by kernel_rfl
  have hbW : Below W0.heap.size W0 W0.drew := (Below.refl _ _).drew
  have HB0 := Lib.hid hbW
  have F0 := Lib.hid f0
  have F1 := Lib.hid f1
  have F2 := Lib.hid f2
  clear f0 f1 f2 hbW
  refine wpIn_mono (Q := Mid fun a' w' => ∃ w1 : World, Below W0.heap.size W0 w1 ∧ w' = w1.alloc (.cells #[.int .u64 (bits .andNot .u64 (full g.n : Nat) (s : Nat))] 78) ∧ a' = ({ tmps := #[.agg g.cells, .int .u64 (s : Nat), .pointer (some ⟨rb, 0, none⟩), .pointer (some ⟨w.heap.size, 0, none⟩), .pointer (some ⟨w.heap.size + 1, 0, none⟩), .int .u64 0, .pointer (some ⟨w.heap.size + 1 + 1, 0, none⟩), undef, .agg g.cells, .int .u64 (full g.n : Nat), .int .u64 (s : Nat), .int .u64 (bits .andNot .u64 (full g.n : Nat) (s : Nat)), .func (.func 88) #[] #[.pointer (some ⟨w1.heap.size, 0, none⟩)], undef, undef, undef, undef, undef, undef, undef, undef, undef, undef, undef, undef, undef, undef, undef], defers := [] } : Act)) ?_ (Mid.then ?_)
  · gi_region_with_o (first | (gi_at_call 74; refine (callsIn_wide.2 (all_any g HG.out _)).mono ?_; rintro e w1 ⟨rfl, hb1⟩; have HB1 := Lib.hid (HB0.out.trans (hb1.mono (by simp))); have cs1 := (HB1.out.cell (p := ⟨w.heap.size + 1, 0, none⟩) (by show w.heap.size + 1 < W0.heap.size; omega)).trans cs; clear hb1) | (gi_at_call 79; refine (callsIn_wide.2 (each_any _ _)).mono ?_; rintro e w2 ⟨rfl, rfl⟩))
    all_goals exact ⟨_, HB1.out, rfl, rfl⟩
  · rintro _ _ ⟨w1, hb1, rfl, rfl⟩
    have hg := HG.out
    have hfl : full g.n < 2 ^ g.n := full_lt _ _ (Nat.le_refl _)
    have hfl64 : full g.n < 2 ^ 64 := Nat.lt_of_lt_of_le hfl (Nat.pow_le_pow_right (by decide) (by have := hg.le; omega))
    have hd : andNot (full g.n) s < 4096 := Nat.lt_of_lt_of_le (andNot_lt hfl) (Nat.pow_le_pow_right (by decide) hg.le)
    have hsz := hb1.size
    have f0 := (hb1.block w.heap.size (by omega)).trans F0.out
    have f1 := (hb1.block (w.heap.size + 1) (by omega)).trans F1.out
    have f2 := (hb1.block (w.heap.size + 1 + 1) (by omega)).trans F2.out
    have bW := f5.trans (hb1.mono (B' := w.heap.size) (by omega))
    have frb := (hb1.block rb (by omega)).trans ((f5.block rb hrb).trans HR.out)
    rw [M.nu_andNot _ _ hfl64]
    obtain ⟨n0, n1, n2⟩ := lay1 w1 (.cells #[.int .u64 ((andNot (full g.n) s : Nat) : Int)] 78)
    have f0' := (n2.block w.heap.size (by omega)).trans f0
    have f1' := (n2.block (w.heap.size + 1) (by omega)).trans f1
    have f2' := (n2.block (w.heap.size + 1 + 1) (by omega)).trans f2
    have bW' := bW.trans (n2.mono (B' := w.heap.size) (by omega))
    have frb' := (n2.block rb (by omega)).trans frb
    generalize hc : w1.heap.size = c at n0 n1
    generalize w1.alloc (.cells #[.int .u64 ((andNot (full g.n) s : Nat) : Int)] 78) = W1 at n0 n1 f0' f1' f2' bW' frb' ⊢
    clear f0 f1 f2 bW frb n2 cs r0 r1 hg hfl
    gi_wp2_with fail
    refine range_each (n := 7) (c := c) hd rfl (one_cell n0) (one_frozen n0 0) (by omega)
      (fun pre W => Boxes3 g s (soakedL g.near r s pre) w W ∧ W.heap[rb]? = some (.cells #[.int .i64 r] 3)) (fun _ _ => False) (fun pre W W' h k => ⟨h.1.safe k (by omega) (by omega) h1w, k.heap (by omega) (by omega) h.2⟩) (fun _ _ _ h _ => h) (fun _ _ h => h.1.tab)
      ⟨⟨f0', f1', f2', tab_below bW' h1w HT.out, bW'⟩, frb'⟩
      (fun x => { tmps := #[.agg g.cells, .int .u64 (s : Nat), .pointer (some ⟨rb, 0, none⟩), .pointer (some ⟨w.heap.size, 0, none⟩), .pointer (some ⟨w.heap.size + 1, 0, none⟩), .int .u64 0, .pointer (some ⟨w.heap.size + 1 + 1, 0, none⟩), .int .i64 (x : Int), .agg g.cells, .int .u64 (full g.n : Nat), .int .u64 (s : Nat), .int .u64 (andNot (full g.n) s : Nat), .func (.func 88) #[] #[.pointer (some ⟨c, 0, none⟩)], .int .i64 (x : Int), undef, undef, undef, undef, undef, undef, undef, undef, undef, undef, undef, undef, undef, undef], defers := [] }) ?assign ?body ?done ?stop
    case assign =>
      intro l x W K hK
      gi_wp2
      exact hK
    case body =>
      intro l D pre x rest W hD hDl hlW hpre hb hnl hnD
      have hxf : x < 12 := by
        have h1 := (mem_bitsOf.1 (show x ∈ bitsOf (andNot (full g.n) s) by rw [← hpre]; simp)).2
        rw [testBit_andNot, testBit_full] at h1
        have := HG.out.le
        simp at h1; omega
      have hprel : ∀ v ∈ pre, v < 12 := by
        intro v hv
        have h1 := (mem_bitsOf.1 (show v ∈ bitsOf (andNot (full g.n) s) by rw [← hpre]; simp [hv])).2
        rw [testBit_andNot, testBit_full] at h1
        have := HG.out.le
        simp at h1; omega
      have cn := near_cell g hb.1.g x hxf
      have cs := one_cell hb.1.s
      have co := one_cell hb.1.out
      have fo := one_frozen hb.1.out 0
      have cr := one_cell hb.2
      have hx0 : (0 : Int) ≤ (x : Int) := by omega
      have hx1 : (x : Int) < 12 := by omega
      have hnx' : g.near x < 2 ^ 64 := Nat.lt_of_lt_of_le (HG.out.near x) (Nat.pow_le_pow_right (by decide) (by have := HG.out.le; omega))
      have hd12 : g.near x &&& s < 4096 := Nat.lt_of_le_of_lt Nat.and_le_left (Nat.lt_of_lt_of_le (HG.out.near x) (Nat.pow_le_pow_right (by decide) HG.out.le))
      have hs64 : s < 2 ^ 64 := Nat.lt_of_lt_of_le HS.out (Nat.pow_le_pow_right (by decide) (by have := HG.out.le; omega))
      have ho12 : soakedL g.near r s pre < 2 ^ 12 := soakedL_lt pre hprel
      have hp12 : (2 : Nat) ^ x < 2 ^ 64 := Nat.pow_lt_pow_right (by decide) (by omega)
      have HE := Lib.hid (M.nu_and (g.near x) s hnx' hs64)
      have HO := Lib.hid (M.nu_or (soakedL g.near r s pre) (2 ^ x) (by omega) hp12)
      have HS1 := Lib.hid (u64_shl_one x (by omega))
      have HB := Lib.hid hb
      have HP := Lib.hid hpre
      clear hb hpre hprel hnx' hs64 hp12
      gi_wp2_with fail
      refine quiet_round rfl (by kernel_rfl) (by kernel_rfl) (by kernel_rfl) ?_
      repeat (gi_big_quiet_step ((exact CallsIn.quiet_of_same (callsIn_wide.2 (size_val _ _ HE.out hd12 _)))))
      refine wpQuietIn_nil ?_
      rintro _ ⟨nq, rfl⟩
      by_cases hle : r ≤ (card (g.near x &&& s) : Int)
      · have HC := Lib.hid hle
        gi_wp2_with fail
        gi_region_with_o (fail)
        all_goals
          rw [HS1.out, HO.out]
          have z := HB.out.1.store h1w (nq + 1) (soakedL g.near r s pre ||| 2 ^ x) (l := l) (D := D) (c := c) (by omega) hDl (by omega)
          gi_wp2_with fail
          rw [soakedL_snoc, soakedStep, if_pos HC.out]
          exact ⟨z.1, z.2, (Below.heap_setCell (W.drewN (nq + 1)) ⟨w.heap.size + 1 + 1, 0, none⟩ _ rb (by show rb ≠ w.heap.size + 1 + 1; omega)).trans HB.out.2⟩
      · have HC := Lib.hid hle
        gi_wp2_with fail
        have z := HB.out.1.stay nq (l := l) (D := D) (c := c)
        rw [soakedL_snoc, soakedStep, if_neg (by have := HC.out; omega)]
        exact ⟨z.1, z.2, HB.out.2⟩
    case done =>
      intro D W hD hb hDD
      have co := one_cell hb.1.out
      have HB := Lib.hid hb
      clear hb
      unfold marked
      gi_wp2
      refine ⟨by simp, .inl ⟨_, _, rfl, run_takeDeferred hDD, ?_⟩⟩
      exact ⟨_, results_tmp rfl _ _ _, rfl, below_take HB.out.1.below (by omega) _⟩
    case stop => exact fun _ _ _ _ h _ => h.elim
end Go.Proofs.YtpbeaaihdmfnlaaDoor.H

/- ### Wc -/
namespace Go.Proofs.YtpbeaaihdmfnlaaDoor.H
open Go Go.RowKit Go.Shelf Go.Proofs.YtpbeaaihdmfnlaaDoor.M
attribute [local go_sem] Oper.semAt_some wide_fn
def numsN (l : List Nat) : List Value := l.map fun x : Nat => .int .i64 (x : Int)
theorem numsN_snoc (l : List Nat) (x : Nat) : numsN l ++ [.int .i64 (x : Int)] = numsN (l ++ [x]) := by simp [numsN]
theorem row_block {w : World} {base : Nat} {e : TypeId} {size n : Nat} {v : Value} {xs : List Value} (h : w.ownsRow base e size v n xs) (k : Nat) (hk : v.ownBlock = some k) :
    base ≤ k ∧ k < w.heap.size ∧ ∃ cells, w.heap[k]? = some (.cells cells e (0, 0)) := by
  rcases h.2 with ⟨rfl, _⟩ | ⟨g, cap, cur, rfl, hg, hh, r⟩
  · simp [Value.ownBlock] at hk
  · have : g = k := by simpa [Value.ownBlock] using hk
    subst this
    exact ⟨hg, (Array.getElem?_eq_some_iff.1 hh).1, _, hh⟩
theorem row_ne {w : World} {base : Nat} {e : TypeId} {size n : Nat} {v : Value} {xs : List Value} (h : w.ownsRow base e size v n xs) {k : Nat} (hk : ∀ cs fz, w.heap[k]? ≠ some (.cells cs e fz)) : some k ≠ v.ownBlock := by
  intro he
  obtain ⟨_, _, cells, hc⟩ := row_block h k he.symm
  exact hk _ _ hc
theorem row_safe {N c : Nat} {W W' : World} {base : Nat} {e : TypeId} {size n : Nat} {v : Value} {xs : List Value} (h : W.ownsRow base e size v n xs) (k : Safe N c W W') (hc : c < base) : W'.ownsRow base e size v n xs := by
  refine ⟨h.1, ?_⟩
  rcases h.2 with h2 | ⟨g, cap, cur, rfl, hg, hh, r⟩
  · exact .inl h2
  · exact .inr ⟨g, cap, cur, rfl, hg, k.cells (by omega) hh, r⟩
theorem info3 : (Tryd.prog.info? 3).map (fun i => (i.zero, i.size, i.bytes)) = some (some (.int .i64 0), 1, 8) := by kernel_rfl
/-- The list so far: its box, its row. -/
structure ListBox (w W : World) (B N ty e sz : Nat) (xs : List Value) (n : Nat) : Prop where
  row : ∃ v, W.heap[B]? = some (.cells #[v] ty) ∧ W.ownsRow N e sz v n xs
  tab : Tab W
  below : Below w.heap.size w W
theorem ListBox.safe {w W W' : World} {B N ty e sz n c : Nat} {xs : List Value} (h : ListBox w W B N ty e sz xs n) {M : Nat} (k : Safe M c W W') (hB : B ≠ c) (hc : c < N) (h1 : 1 < w.heap.size) (hM : w.heap.size ≤ M) (hc2 : w.heap.size ≤ c) : ListBox w W' B N ty e sz xs n where
  row := by
    obtain ⟨v, hv, hr⟩ := h.row
    exact ⟨v, k.cells hB hv, row_safe hr k hc⟩
  tab := k.tab (by omega) h.tab
  below := h.below.trans (k.below hM hc2 h.below.size)
/-- What an append to a row leaves. -/
theorem appended {W w1 : World} {N e sz n : Nat} {v : Value} {xs : List Value} (hrow : W.ownsRow N e sz v n xs) (o : Obj) (hg : (W.alloc o).grownBy w1 v.ownBlock) :
    (∀ k, k < W.heap.size → (k < N ∨ ∀ cs fz, W.heap[k]? ≠ some (.cells cs e fz)) → w1.heap[k]? = W.heap[k]?) ∧ W.heap.size ≤ w1.heap.size ∧ (∀ M, M ≤ N → M ≤ W.heap.size → Below M W w1) := by
  have hs := hg.size
  rw [World.size_alloc] at hs
  refine ⟨fun k hk hc => ?_, by omega, fun M hM hM2 => ⟨hg.os, hg.tape, hg.output, by omega, fun k hk => ?_⟩⟩
  · refine (hg.block k (by rw [World.size_alloc]; omega) ?_).trans (Below.heap_alloc _ _ _ hk)
    rcases hc with hc | hc
    · intro he
      have := (row_block hrow k he.symm).1
      omega
    · exact row_ne hrow hc
  · refine (hg.block k (by rw [World.size_alloc]; omega) ?_).trans (Below.heap_alloc _ _ _ (by omega))
    intro he
    have := (row_block hrow k he.symm).1
    omega
theorem row_setCell {W : World} {N e sz n : Nat} {v : Value} {xs : List Value} (hrow : W.ownsRow N e sz v n xs) {B : Nat} {u : Value} (hB : ∀ cs fz, W.heap[B]? ≠ some (.cells cs e fz)) : (W.setCell ⟨B, 0, none⟩ u).ownsRow N e sz v n xs := by
  refine ⟨hrow.1, ?_⟩
  have hne := row_ne hrow hB
  rcases hrow.2 with h2 | ⟨g, cap, cur, rfl, hg, hh, r⟩
  · exact .inl h2
  · refine .inr ⟨g, cap, cur, rfl, hg, ?_, r⟩
    have : g ≠ B := fun h => hne (by simp [Value.ownBlock, h])
    exact (Below.heap_setCell W ⟨B, 0, none⟩ u g this).trans hh
theorem row_put {W : World} {N N' e sz n : Nat} {v : Value} {xs : List Value} (hrow : W.ownsRow N e sz v n xs) (hN : N' ≤ N) {D : Nat} {ds : Option (List Deferred)} (hD : W.heap[D]? = some (.deferred ds)) (o : Obj) : (W.putObj D o).ownsRow N' e sz v n xs := by
  refine ⟨hrow.1, ?_⟩
  have hne := row_ne hrow (k := D) (by rw [hD]; intro _ _ h; cases h)
  rcases hrow.2 with h2 | ⟨g, cap, cur, rfl, hg, hh, r⟩
  · exact .inl h2
  · refine .inr ⟨g, cap, cur, rfl, by omega, ?_, r⟩
    have : g ≠ D := fun h => hne (by simp [Value.ownBlock, h])
    exact (World.putObj_heap_other this).trans hh
/-- One more element: the loop's record, the block for deferred calls and the iterator's box stay; the list is longer. -/
theorem ListBox.push {w W w1 : World} {B N ty e sz n' l D c : Nat} {v v' : Value} {xs' : List Value} (h1 : 1 < w.heap.size) (hBW : w.heap.size ≤ B) (hty : ty ≠ e) (hT : Tab W) (hb : Below w.heap.size w W)
    (ho : w1.ownsRow N e sz v' n' xs') (hbx : w1.heap[B]? = some (.cells #[v] ty)) (ha : ∀ k, k < W.heap.size → (k < N ∨ ∀ cs fz, W.heap[k]? ≠ some (.cells cs e fz)) → w1.heap[k]? = W.heap[k]?)
    (hs : W.heap.size ≤ w1.heap.size) (hB1 : Below w.heap.size W w1)
    (hl : l < W.heap.size) (hlB : l ≠ B) (hln : l < N ∨ ∀ cs fz, W.heap[l]? ≠ some (.cells cs e fz)) (hD : D < W.heap.size) (hDB : D ≠ B) (hDn : D < N ∨ ∀ cs fz, W.heap[D]? ≠ some (.cells cs e fz))
    (hc : c < W.heap.size) (hcB : c ≠ B) (hcn : c < N ∨ ∀ cs fz, W.heap[c]? ≠ some (.cells cs e fz)) :
    Keep l D c W (w1.setCell ⟨B, 0, none⟩ v') ∧ ListBox w (w1.setCell ⟨B, 0, none⟩ v') B N ty e sz xs' n' := by
  have es : ∀ k, k ≠ B → (w1.setCell ⟨B, 0, none⟩ v').heap[k]? = w1.heap[k]? := fun k hk => Below.heap_setCell w1 ⟨B, 0, none⟩ v' k hk
  have hBb : w.heap.size ≤ (⟨B, 0, none⟩ : Addr).block := hBW
  have hb1 := hb.trans hB1
  refine ⟨⟨(es l hlB).trans (ha l hl hln), (es D hDB).trans (ha D hD hDn), (es c hcB).trans (ha c hc hcn)⟩, ⟨⟨v', heap_store_one hbx, row_setCell ho (by rw [hbx]; intro cs fz h; cases h; exact hty rfl)⟩, ?_, ?_⟩⟩
  · refine tab_same (W := W) ((es 1 (by omega)).trans ?_) (by rw [size_setCell]; exact hs) hT
    exact hB1.block 1 h1
  · exact hb1.setCell hBb _
set_option maxHeartbeats 1000000 in
set_option maxRecDepth 100000 in
theorem list_any (s : Nat) (hs : s < 4096) (w : World) (ht : Tab w) : Calls Tryd.prog 60 #[.int .u64 s] w fun e w' =>
    ∃ v, e = .returned v ∧ w'.ownsRow w.heap.size 3 1 v (bitsOf s).length (numsN (bitsOf s)) ∧ Below w.heap.size w w' := by
  have h1w : 1 < w.heap.size := (ht 0 (by decide)).2
  refine (callsIn_wide (n := 9)).1 ?_
  refine callsIn_of_wp_marks Tryd.func60 rfl trivial ?_ rfl
  simp only [Tryd.ntmps60, List.size_toArray, List.length_cons, List.length_nil, Nat.reduceAdd, Nat.reduceSub, Array.replicate_succ, Array.replicate_zero, List.push_toArray, List.append_toArray, List.nil_append, List.cons_append]
  have HT := Lib.hid ht
  clear ht
  gi_wp2_with fail
  refine (callsIn_wide.2 (each_any s _)).mono ?_
  rintro e w' ⟨rfl, rfl⟩
  gi_wp2_with fail
  obtain ⟨f0, f1, f2, f3⟩ := lay2 w (.cells #[.slice none 0 0] 24) (.cells #[.int .u64 ((s : Nat) : Int)] 78)
  generalize ((w.alloc (Obj.cells #[.slice none 0 0] 24)).alloc (Obj.cells #[Value.int IntKind.u64 ↑s] 78)) = W0 at f0 f1 f2 f3 ⊢
  refine range_each (n := 7) (c := w.heap.size + 1) hs rfl (one_cell f1) (one_frozen f1 0) (by omega)
    (fun pre W => ListBox w W w.heap.size (w.heap.size + 2) 24 3 1 (numsN pre) pre.length) (fun _ _ => False) (fun pre W W' h k => h.safe k (by omega) (by omega) h1w (by omega) (by omega)) (fun _ _ _ h _ => h) (fun _ _ h => h.tab)
    ⟨⟨_, f0, World.ownsRow_nil _ _ _ _⟩, tab_below f3 h1w HT.out, f3⟩
    (fun x => { tmps := #[.int .u64 (s : Nat), undef, .slice none 0 0, .pointer (some ⟨w.heap.size, 0, none⟩), .int .i64 (x : Int), .int .u64 (s : Nat), .func (.func 88) #[] #[.pointer (some ⟨w.heap.size + 1, 0, none⟩)], .int .i64 (x : Int), undef, undef, undef, undef, undef], defers := [] }) ?assign ?body ?done ?stop
  case assign =>
    intro l x W K hK
    gi_wp2
    exact hK
  case body =>
    intro l D pre x rest W hD hDl hlW hpre hb hnl hnD
    obtain ⟨⟨v, hbx, hrow⟩, hT, hB⟩ := hb
    have hlen : pre.length < 64 := by
      have h1 : (bitsOf s).length ≤ 64 := by unfold bitsOf; exact Nat.le_trans (List.length_filter_le _ _) (by simp)
      rw [← hpre] at h1; simp at h1; omega
    have co := one_cell hbx
    have fo := one_frozen hbx 0
    obtain ⟨i0, hi, hz0, hz1, hz2⟩ := info_parts info3
    have hsz := hB.size
    have HX := Lib.hid hbx
    have HB := Lib.hid hB
    have HTW := Lib.hid hT
    have HP := Lib.hid hpre
    have HR := Lib.hid hrow
    clear hbx hB hT hpre hrow
    gi_wp2_with (gi_at_builtin; refine wpListIn_append_own _ rfl _ _ 24 rfl (w.heap.size + 2) 3 i0 (.int .i64 0) 1 8 Tryd.underlying24 hi hz0 hz1 hz2 rfl (by decide) v pre.length (numsN pre) rfl (HR.out.alloc _) ⟨W.heap.size, 0, none⟩ 1 1 [.int .i64 (x : Int)] rfl rfl (cell_one_new _ _ _) (by simp [Value.oneCell']) (by unfold maxLen; omega) (by omega) (by simp; omega) ?_; intro v' w1 hown' hgrow _; obtain ⟨g', cap', rfl⟩ := ownsRow_succ hown'; obtain ⟨ha1, ha2, ha3⟩ := appended HR.out _ hgrow; have hbx1 := (ha1 w.heap.size (by omega) (.inl (by omega))).trans HX.out; have co1 := one_cell hbx1; have fo1 := one_frozen hbx1 0; have HX1 := Lib.hid hbx1; have HO := Lib.hid hown'; have HA1 := Lib.hid ha1; have HA3 := Lib.hid ha3; clear hown' hgrow ha1 ha3 hbx1)
    have z := ListBox.push (l := l) (D := D) (c := w.heap.size + 1) h1w (Nat.le_refl _) (by decide) HTW.out HB.out HO.out HX1.out HA1.out ha2 (HA3.out _ (by omega) (by omega)) hlW (by omega) (.inr fun cs fz => hnl cs 3 fz) (by omega) (by omega) (.inr fun cs fz => hnD cs 3 fz) (by omega) (by omega) (.inl (by omega))
    rw [numsN_snoc, show pre.length + 1 = (pre ++ [x]).length by simp] at z
    simp only [List.length_append, List.length_singleton] at z ⊢
    exact z
  case done =>
    intro D W hD hb hDD
    obtain ⟨⟨v, hbx, hrow⟩, hT, hB⟩ := hb
    have co := one_cell hbx
    have HB := Lib.hid hB
    have HR := Lib.hid hrow
    clear hbx hB hT hrow
    unfold marked
    gi_wp2
    refine ⟨by simp, .inl ⟨_, _, rfl, run_takeDeferred hDD, ?_⟩⟩
    exact ⟨_, results_tmp rfl _ _ _, v, rfl, row_put HR.out (by omega) hDD _, below_take HB.out (by omega) _⟩
  case stop => exact fun _ _ _ _ h _ => h.elim
end Go.Proofs.YtpbeaaihdmfnlaaDoor.H

/- ### Wd -/
namespace Go.Proofs.YtpbeaaihdmfnlaaDoor.H
open Go Go.RowKit Go.Shelf Go.Proofs.YtpbeaaihdmfnlaaDoor.M
attribute [local go_sem] Oper.semAt_some wide_fn
attribute [local go_sem ↓ high] loadAt81
attribute [local go_sem] rowOk_drew cellsAt_drew run_loadRow
/-- A graph, a set and a value lie in boxes of their own. -/
structure BoxesR (g : Gr) (s : Nat) (x : Value) (t : TypeId) (w W : World) : Prop where
  g : W.heap[w.heap.size]? = some (.cells g.cells 81)
  s : W.heap[w.heap.size + 1]? = some (.cells #[.int .u64 ((s : Nat) : Int)] 78)
  out : W.heap[w.heap.size + 1 + 1]? = some (.cells #[x] t)
  tab : Tab W
  below : Below w.heap.size w W
theorem BoxesR.safe {g : Gr} {s : Nat} {x : Value} {t : TypeId} {w W W' : World} {N c : Nat} (h : BoxesR g s x t w W) (k : Safe N c W W') (hN : w.heap.size + 2 < N) (hc : w.heap.size + 2 < c) (h1 : 1 < w.heap.size) : BoxesR g s x t w W' where
  g := k.heap (by omega) (by omega) h.g
  s := k.heap (by omega) (by omega) h.s
  out := k.heap (by omega) (by omega) h.out
  tab := k.tab (by omega) h.tab
  below := h.below.trans (k.below (by omega) (by omega) h.below.size)
theorem BoxesR.drew {g : Gr} {s : Nat} {x : Value} {t : TypeId} {w W : World} (h : BoxesR g s x t w W) (nq : Nat) : BoxesR g s x t w (W.drewN nq) :=
  ⟨h.g, h.s, h.out, h.tab, h.below.trans ⟨rfl, rfl, rfl, Nat.le_refl _, fun _ _ => rfl⟩⟩
theorem BoxesR.store {g : Gr} {s : Nat} {x : Value} {t : TypeId} {w W : World} (h : BoxesR g s x t w W) (h1 : 1 < w.heap.size) (v : Value) {l D c : Nat} (hD : w.heap.size + 2 < D) (hl : D < l) (hc : w.heap.size + 2 < c) :
    Keep l D c W (W.setCell ⟨w.heap.size + 1 + 1, 0, none⟩ v) ∧ BoxesR g s v t w (W.setCell ⟨w.heap.size + 1 + 1, 0, none⟩ v) := by
  have e : ∀ k, k ≠ w.heap.size + 1 + 1 → (W.setCell ⟨w.heap.size + 1 + 1, 0, none⟩ v).heap[k]? = W.heap[k]? := fun k hk => Below.heap_setCell W ⟨w.heap.size + 1 + 1, 0, none⟩ _ k hk
  have hle : w.heap.size ≤ (⟨w.heap.size + 1 + 1, 0, none⟩ : Addr).block := by show w.heap.size ≤ w.heap.size + 1 + 1; omega
  have hb := h.below
  exact ⟨⟨e _ (by omega), e _ (by omega), e _ (by omega)⟩, ⟨(e _ (by omega)).trans h.g, (e _ (by omega)).trans h.s, heap_store_one h.out, tab_same (e 1 (by omega)) (by rw [size_setCell]; exact Nat.le_refl _) h.tab, hb.setCell hle _⟩⟩
theorem put_cell {W : World} {D : Nat} {p : Addr} {v : Value} (h : W.cell? p = some v) (hD : p.block ≠ D) (o : Obj) : (W.putObj D o).cell? p = some v := by
  unfold World.cell? at h ⊢
  rw [World.putObj_heap_other (fun e => hD e)]; exact h
def fortAt (near : Nat → Nat) (s v : Nat) : Bool := !(card (near v &&& s) == 1)
def fortM (n : Nat) (near : Nat → Nat) (s : Nat) : Bool := (bitsOf (andNot (full n) s)).all (fortAt near s) && decide (0 < s)
set_option maxHeartbeats 1000000 in
theorem isFort_any (g : Gr) (hg : g.Ok) (s : Nat) (hs : s < 2 ^ g.n) (w : World) (ht : Tab w) :
    Calls Tryd.prog 62 #[.agg g.cells, .int .u64 s] w fun e w' => e = .returned (.bool (fortM g.n g.near s)) ∧ Below w.heap.size w w' := by
  have h1w : 1 < w.heap.size := (ht 0 (by decide)).2
  refine (callsIn_wide (n := 9)).1 ?_
  refine callsIn_of_wp_marks Tryd.func62 rfl trivial ?_ rfl
  simp only [Tryd.ntmps62, List.size_toArray, List.length_cons, List.length_nil, Nat.reduceAdd, Nat.reduceSub, Array.replicate_succ, Array.replicate_zero, List.push_toArray, List.append_toArray, List.nil_append, List.cons_append]
  have HG := Lib.hid hg
  have HS := Lib.hid hs
  have HT := Lib.hid ht
  clear hg hs ht
  gi_wp2_with fail
  obtain ⟨f0, f1, f2, f4, f5⟩ := lay3 w (.cells g.cells 81) (.cells #[.int .u64 ((s : Nat) : Int)] 78) (.cells #[.bool false] 4)
  generalize (((w.alloc (Obj.cells g.cells 81)).alloc (Obj.cells #[Value.int IntKind.u64 ↑s] 78)).alloc (Obj.cells #[Value.bool false] 4)) = W0 at f0 f1 f2 f4 f5 ⊢
  have cs := one_cell f1
  have r0 := rowOk_of f0
  have r1 := cellsAt_of f0
  have hmx : Tryd.prog.follows .mixedOrders = true := by kernel_rfl
  have hbW : Below W0.heap.size W0 W0.drew := (Below.refl _ _).drew
  have HB0 := Lib.hid hbW
  have F0 := Lib.hid f0
  have F1 := Lib.hid f1
  have F2 := Lib.hid f2
  clear f0 f1 f2 hbW
  refine wpIn_mono (Q := Mid fun a' w' => ∃ w1 : World, Below W0.heap.size W0 w1 ∧ w' = w1.alloc (.cells #[.int .u64 (bits .andNot .u64 (full g.n : Nat) (s : Nat))] 78) ∧ a' = ({ tmps := #[.agg g.cells, .int .u64 (s : Nat), .pointer (some ⟨w.heap.size, 0, none⟩), .pointer (some ⟨w.heap.size + 1, 0, none⟩), .pointer (some ⟨w.heap.size + 1 + 1, 0, none⟩), undef, .agg g.cells, .int .u64 (full g.n : Nat), .int .u64 (s : Nat), .int .u64 (bits .andNot .u64 (full g.n : Nat) (s : Nat)), .func (.func 88) #[] #[.pointer (some ⟨w1.heap.size, 0, none⟩)], undef, undef, undef, undef, undef, undef, undef, undef, undef, undef, undef], defers := [] } : Act)) ?_ (Mid.then ?_)
  · gi_region_with_o (first | (gi_at_call 74; refine (callsIn_wide.2 (all_any g HG.out _)).mono ?_; rintro e w1 ⟨rfl, hb1⟩; have HB1 := Lib.hid (HB0.out.trans (hb1.mono (by simp))); have cs1 := (HB1.out.cell (p := ⟨w.heap.size + 1, 0, none⟩) (by show w.heap.size + 1 < W0.heap.size; omega)).trans cs; clear hb1) | (gi_at_call 79; refine (callsIn_wide.2 (each_any _ _)).mono ?_; rintro e w2 ⟨rfl, rfl⟩))
    all_goals exact ⟨_, HB1.out, rfl, rfl⟩
  · rintro _ _ ⟨w1, hb1, rfl, rfl⟩
    have hg := HG.out
    have hfl : full g.n < 2 ^ g.n := full_lt _ _ (Nat.le_refl _)
    have hfl64 : full g.n < 2 ^ 64 := Nat.lt_of_lt_of_le hfl (Nat.pow_le_pow_right (by decide) (by have := hg.le; omega))
    have hd : andNot (full g.n) s < 4096 := Nat.lt_of_lt_of_le (andNot_lt hfl) (Nat.pow_le_pow_right (by decide) hg.le)
    have hsz := hb1.size
    have f0 := (hb1.block w.heap.size (by omega)).trans F0.out
    have f1 := (hb1.block (w.heap.size + 1) (by omega)).trans F1.out
    have f2 := (hb1.block (w.heap.size + 1 + 1) (by omega)).trans F2.out
    have bW := f5.trans (hb1.mono (B' := w.heap.size) (by omega))
    rw [M.nu_andNot _ _ hfl64]
    obtain ⟨n0, n1, n2⟩ := lay1 w1 (.cells #[.int .u64 ((andNot (full g.n) s : Nat) : Int)] 78)
    have f0' := (n2.block w.heap.size (by omega)).trans f0
    have f1' := (n2.block (w.heap.size + 1) (by omega)).trans f1
    have f2' := (n2.block (w.heap.size + 1 + 1) (by omega)).trans f2
    have bW' := bW.trans (n2.mono (B' := w.heap.size) (by omega))
    generalize hc : w1.heap.size = c at n0 n1
    generalize w1.alloc (.cells #[.int .u64 ((andNot (full g.n) s : Nat) : Int)] 78) = W1 at n0 n1 f0' f1' f2' bW' ⊢
    clear f0 f1 f2 bW n2 cs r0 r1 hg hfl
    gi_wp2_with fail
    refine range_each (n := 7) (c := c) hd rfl (one_cell n0) (one_frozen n0 0) (by omega)
      (fun pre W => BoxesR g s (.bool false) 4 w W ∧ pre.all (fortAt g.near s) = true) (fun k W => k = .ret ∧ BoxesR g s (.bool false) 4 w W ∧ (bitsOf (andNot (full g.n) s)).all (fortAt g.near s) = false) (fun pre W W' h k => ⟨h.1.safe k (by omega) (by omega) h1w, h.2⟩) (fun _ W W' h k => ⟨h.1, h.2.1.safe k (by omega) (by omega) h1w, h.2.2⟩) (fun _ _ h => h.1.tab)
      ⟨⟨f0', f1', f2', tab_below bW' h1w HT.out, bW'⟩, rfl⟩
      (fun x => { tmps := #[.agg g.cells, .int .u64 (s : Nat), .pointer (some ⟨w.heap.size, 0, none⟩), .pointer (some ⟨w.heap.size + 1, 0, none⟩), .pointer (some ⟨w.heap.size + 1 + 1, 0, none⟩), .int .i64 (x : Int), .agg g.cells, .int .u64 (full g.n : Nat), .int .u64 (s : Nat), .int .u64 (andNot (full g.n) s : Nat), .func (.func 88) #[] #[.pointer (some ⟨c, 0, none⟩)], .int .i64 (x : Int), undef, undef, undef, undef, undef, undef, undef, undef, undef, undef], defers := [] }) ?assign ?body ?done ?stop
    case assign =>
      intro l x W K hK
      gi_wp2
      exact hK
    case body =>
      intro l D pre x rest W hD hDl hlW hpre hb hnl hnD
      have hxf : x < 12 := by
        have h1 := (mem_bitsOf.1 (show x ∈ bitsOf (andNot (full g.n) s) by rw [← hpre]; simp)).2
        rw [testBit_andNot, testBit_full] at h1
        have := HG.out.le
        simp at h1; omega
      have cn := near_cell g hb.1.g x hxf
      have cs := one_cell hb.1.s
      have co := one_cell hb.1.out
      have fo := one_frozen hb.1.out 0
      have hx0 : (0 : Int) ≤ (x : Int) := by omega
      have hx1 : (x : Int) < 12 := by omega
      have hnx' : g.near x < 2 ^ 64 := Nat.lt_of_lt_of_le (HG.out.near x) (Nat.pow_le_pow_right (by decide) (by have := HG.out.le; omega))
      have hd12 : g.near x &&& s < 4096 := Nat.lt_of_le_of_lt Nat.and_le_left (Nat.lt_of_lt_of_le (HG.out.near x) (Nat.pow_le_pow_right (by decide) HG.out.le))
      have hs64 : s < 2 ^ 64 := Nat.lt_of_lt_of_le HS.out (Nat.pow_le_pow_right (by decide) (by have := HG.out.le; omega))
      have HE := Lib.hid (M.nu_and (g.near x) s hnx' hs64)
      have HB := Lib.hid hb
      have HP := Lib.hid hpre
      clear hb hpre hnx' hs64
      gi_wp2_with fail
      by_cases hcd : card (g.near x &&& s) = 1
      · have hcb : ((card (g.near x &&& s) : Int) == 1) = true := by rw [beq_iff_eq]; omega
        have HC := Lib.hid hcd
        clear hcd
        refine quiet_round rfl (by kernel_rfl) (by kernel_rfl) (by kernel_rfl) ?_
        repeat (gi_big_quiet_step ((exact CallsIn.quiet_of_same (callsIn_wide.2 (size_val _ _ HE.out hd12 _)))))
        refine wpQuietIn_nil ?_
        rintro _ ⟨nq, rfl⟩
        gi_wp2
        have z := (HB.out.1.drew nq).store h1w (.bool false) (l := l) (D := D) (c := c) (by omega) hDl (by omega)
        refine ⟨⟨z.1.l, z.1.D, z.1.c⟩, rfl, z.2, ?_⟩
        rw [List.all_eq_false]
        exact ⟨x, by rw [← HP.out]; simp, by simp [fortAt, HC.out]⟩
      · have hcb : ((card (g.near x &&& s) : Int) == 1) = false := by rw [beq_eq_false_iff_ne]; omega
        have HC := Lib.hid hcd
        clear hcd
        refine quiet_round rfl (by kernel_rfl) (by kernel_rfl) (by kernel_rfl) ?_
        repeat (gi_big_quiet_step ((exact CallsIn.quiet_of_same (callsIn_wide.2 (size_val _ _ HE.out hd12 _)))))
        refine wpQuietIn_nil ?_
        rintro _ ⟨nq, rfl⟩
        gi_wp2
        refine ⟨⟨rfl, rfl, rfl⟩, HB.out.1.drew nq, ?_⟩
        rw [List.all_append, HB.out.2]
        simp [fortAt, HC.out]
    case done =>
      intro D W hD hb hDD
      have cs := one_cell hb.1.s
      have co := one_cell hb.1.out
      have fo := one_frozen hb.1.out 0
      have HB := Lib.hid hb
      clear hb
      unfold marked
      gi_wp2
      have hDs : w.heap.size + 2 < D := by omega
      have hx := (Below.heap_setCell W ⟨w.heap.size + 1 + 1, 0, none⟩ (.bool (decide (0 < s))) D (by show D ≠ w.heap.size + 1 + 1; omega)).trans hDD
      have z := (HB.out.1).store h1w (.bool (decide (0 < s))) (l := D + 1) (D := D) (c := D) hDs (by omega) hDs
      have z1 := put_cell (D := D) (one_cell z.2.out) (show w.heap.size + 1 + 1 ≠ D by omega) (.deferred none)
      refine ⟨by simp, .inl ⟨_, _, rfl, run_takeDeferred hx, ?_⟩⟩
      have hv : fortM g.n g.near s = decide (0 < s) := by simp [fortM, HB.out.2]
      rw [hv]
      refine ⟨.bool (decide (0 < s)), ?_, rfl, below_take z.2.below (by omega) _⟩
      simp [results, Tryd.results62, go_sem, z1]
    case stop =>
      rintro D k W hD ⟨rfl, hb, hall⟩ hDD
      unfold marked
      gi_wp2
      have z1 := put_cell (D := D) (one_cell hb.out) (show w.heap.size + 1 + 1 ≠ D by omega) (.deferred none)
      refine ⟨by simp, .inl ⟨_, _, rfl, run_takeDeferred hDD, ?_⟩⟩
      have hv : fortM g.n g.near s = false := by simp only [fortM, hall, Bool.false_and]
      rw [hv]
      refine ⟨.bool false, ?_, rfl, below_take hb.below (by omega) _⟩
      simp [results, Tryd.results62, go_sem, z1]
end Go.Proofs.YtpbeaaihdmfnlaaDoor.H

/- ### We -/
namespace Go.Proofs.YtpbeaaihdmfnlaaDoor.H
open Go Go.RowKit Go.Shelf Go.Proofs.YtpbeaaihdmfnlaaDoor.M
attribute [local go_sem] Oper.semAt_some wide_fn
attribute [local go_sem ↓ high] loadAt81
attribute [local go_sem] rowOk_drew cellsAt_drew run_loadRow
/-- Blocks hold what they should, the table lies, and the caller's blocks are as they were. -/
structure Boxes (l : List (Nat × Obj)) (w W : World) : Prop where
  box : ∀ p ∈ l, W.heap[p.1]? = some p.2
  tab : Tab W
  below : Below w.heap.size w W
theorem Boxes.safe {l : List (Nat × Obj)} {w W W' : World} {N c : Nat} (h : Boxes l w W) (k : Safe N c W W') (hl : ∀ p ∈ l, p.1 < N ∧ p.1 ≠ c) (hN : w.heap.size ≤ N) (hc : w.heap.size ≤ c) (h1 : 1 < w.heap.size) : Boxes l w W' where
  box := fun p hp => k.heap (hl p hp).1 (hl p hp).2 (h.box p hp)
  tab := k.tab (by omega) h.tab
  below := h.below.trans (k.below hN hc h.below.size)
theorem Boxes.drew {l : List (Nat × Obj)} {w W : World} (h : Boxes l w W) (nq : Nat) : Boxes l w (W.drewN nq) :=
  ⟨h.box, h.tab, h.below.trans ⟨rfl, rfl, rfl, Nat.le_refl _, fun _ _ => rfl⟩⟩
/-- One block gets another object. -/
theorem Boxes.upd {l l' : List (Nat × Obj)} {w W W' : World} {b : Nat} (h : Boxes l w W) (h1 : 1 < w.heap.size) (hb : w.heap.size ≤ b) (hs : ∀ k, k ≠ b → W'.heap[k]? = W.heap[k]?)
    (ho : W'.os = W.os) (ht : W'.tape = W.tape) (hp : W'.output = W.output) (hz : W'.heap.size = W.heap.size) (hl : ∀ p ∈ l', (p.1 ≠ b ∧ p ∈ l) ∨ W'.heap[p.1]? = some p.2) : Boxes l' w W' where
  box := fun p hp => (hl p hp).elim (fun q => (hs _ q.1).trans (h.box p q.2)) id
  tab := tab_same (hs 1 (by omega)) (by omega) h.tab
  below := h.below.trans ⟨ho, ht, hp, by omega, fun k hk => hs k (by omega)⟩
theorem Keep.of {W W' : World} {b l D c : Nat} (hs : ∀ k, k ≠ b → W'.heap[k]? = W.heap[k]?) (hl : l ≠ b) (hD : D ≠ b) (hc : c ≠ b) : Keep l D c W W' := ⟨hs _ hl, hs _ hD, hs _ hc⟩
theorem heap_store_two0 {W : World} {b : Nat} {x y v : Value} {t : TypeId} (h : W.heap[b]? = some (.cells #[x, y] t)) : (W.setCell ⟨b, 0, none⟩ v).heap[b]? = some (.cells #[v, y] t) := by
  obtain ⟨hlt, e⟩ := Array.getElem?_eq_some_iff.1 h
  show (W.heap.modify b _)[b]? = _
  rw [Array.getElem?_eq_getElem (by rw [Array.size_modify]; exact hlt), Array.getElem_modify_self, e]
  rfl
theorem heap_store_two1 {W : World} {b : Nat} {x y v : Value} {t : TypeId} (h : W.heap[b]? = some (.cells #[x, y] t)) : (W.setCell ⟨b, 1, none⟩ v).heap[b]? = some (.cells #[x, v] t) := by
  obtain ⟨hlt, e⟩ := Array.getElem?_eq_some_iff.1 h
  show (W.heap.modify b _)[b]? = _
  rw [Array.getElem?_eq_getElem (by rw [Array.size_modify]; exact hlt), Array.getElem_modify_self, e]
  rfl
/-- A pair and a value of another block are stored. -/
theorem store_pair_one {W : World} {B b b' : Nat} {x y z v0 v1 v2 : Value} {t t' : TypeId} (h : W.heap[b]? = some (.cells #[x, y] t)) (h' : W.heap[b']? = some (.cells #[z] t')) (hb : B ≤ b) (hb' : B ≤ b') (hne : b ≠ b') :
    let W' := ((W.setCell ⟨b, 0, none⟩ v0).setCell ⟨b, 1, none⟩ v1).setCell ⟨b', 0, none⟩ v2
    W'.heap[b]? = some (.cells #[v0, v1] t) ∧ W'.heap[b']? = some (.cells #[v2] t') ∧ (∀ k, k ≠ b → k ≠ b' → W'.heap[k]? = W.heap[k]?) ∧ W'.heap.size = W.heap.size ∧ Below B W W' := by
  have o : ∀ (W : World) (a : Addr) (v : Value) k, k ≠ a.block → (W.setCell a v).heap[k]? = W.heap[k]? := fun W a v k hk => Below.heap_setCell W a v k hk
  refine ⟨(o _ _ _ _ hne).trans (heap_store_two1 (heap_store_two0 h)), heap_store_one ((o _ _ _ _ (Ne.symm hne)).trans ((o _ _ _ _ (Ne.symm hne)).trans h')), fun k h1 h2 => (o _ _ _ _ h2).trans ((o _ _ _ _ h1).trans (o _ _ _ _ h1)), by simp only [size_setCell], ?_⟩
  exact (((Below.refl B W).setCell (p := ⟨b, 0, none⟩) hb _).setCell (p := ⟨b, 1, none⟩) hb _).setCell (p := ⟨b', 0, none⟩) hb' _
/-- The first place that can wet one, and the one. -/
def canForce (near : Nat → Nat) (s v : Nat) : Bool := card (andNot (near v) s) == 1
def nextM (near : Nat → Nat) (s : Nat) : Option Nat := (bitsOf s).find? (canForce near s)
def nextV (near : Nat → Nat) (s : Nat) : Value := match nextM near s with
  | none => .tuple #[.agg #[.int .i64 0, .int .i64 0], .bool false]
  | some v => .tuple #[.agg #[.int .i64 v, .int .i64 (low (andNot (near v) s))], .bool true]
set_option maxHeartbeats 1000000 in
theorem next_any (g : Gr) (hg : g.Ok) (s : Nat) (hs : s < 2 ^ g.n) (w : World) (ht : Tab w) :
    Calls Tryd.prog 87 #[.agg g.cells, .int .u64 s] w fun e w' => e = .returned (nextV g.near s) ∧ Below w.heap.size w w' := by
  have hs' : s < 4096 := Nat.lt_of_lt_of_le hs (Nat.pow_le_pow_right (by decide) hg.le)
  have h1w : 1 < w.heap.size := (ht 0 (by decide)).2
  refine (callsIn_wide (n := 9)).1 ?_
  refine callsIn_of_wp_marks Tryd.func87 rfl trivial ?_ rfl
  simp only [Tryd.ntmps87, List.size_toArray, List.length_cons, List.length_nil, Nat.reduceAdd, Nat.reduceSub, Array.replicate_succ, Array.replicate_zero, List.push_toArray, List.append_toArray, List.nil_append, List.cons_append]
  have HG := Lib.hid hg
  have HS := Lib.hid hs
  have HT := Lib.hid ht
  clear hg hs ht
  gi_wp2_with fail
  refine (callsIn_wide.2 (each_any s _)).mono ?_
  rintro e w' ⟨rfl, rfl⟩
  gi_wp2_with fail
  obtain ⟨f0, f1, f2, f3, f4, f5⟩ := lay4 w (.cells g.cells 81) (.cells #[.int .u64 ((s : Nat) : Int)] 78) (.cells #[.int .i64 0, .int .i64 0] 108) (.cells #[.bool false] 4)
  generalize ((((w.alloc (Obj.cells g.cells 81)).alloc (Obj.cells #[Value.int IntKind.u64 ↑s] 78)).alloc (Obj.cells #[Value.int IntKind.i64 0, Value.int IntKind.i64 0] 108)).alloc (Obj.cells #[Value.bool false] 4)) = W0 at f0 f1 f2 f3 f4 f5 ⊢
  obtain ⟨n0, n1, n2⟩ := lay1 W0 (.cells #[.int .u64 ((s : Nat) : Int)] 78)
  rw [f4] at n0 n1
  have f0' := (n2.block w.heap.size (by omega)).trans f0
  have f1' := (n2.block (w.heap.size + 1) (by omega)).trans f1
  have f2' := (n2.block (w.heap.size + 1 + 1) (by omega)).trans f2
  have f3' := (n2.block (w.heap.size + 1 + 1 + 1) (by omega)).trans f3
  have bW' := f5.trans (n2.mono (B' := w.heap.size) (by omega))
  clear f0 f1 f2 f3 f5 n2
  generalize (W0.alloc (Obj.cells #[Value.int IntKind.u64 ↑s] 78)) = W1 at n0 n1 f0' f1' f2' f3' bW' ⊢
  obtain ⟨bx, hbx⟩ : ∃ bx : Value → Value → Value → List (Nat × Obj), bx = fun a b t => [(w.heap.size, .cells g.cells 81), (w.heap.size + 1, .cells #[.int .u64 ((s : Nat) : Int)] 78), (w.heap.size + 1 + 1, .cells #[a, b] 108), (w.heap.size + 1 + 1 + 1, .cells #[t] 4)] := ⟨_, rfl⟩
  have BX : ∀ {a b t W}, Boxes (bx a b t) w W → W.heap[w.heap.size]? = some (.cells g.cells 81) ∧ W.heap[w.heap.size + 1]? = some (.cells #[.int .u64 ((s : Nat) : Int)] 78) ∧ W.heap[w.heap.size + 1 + 1]? = some (.cells #[a, b] 108) ∧ W.heap[w.heap.size + 1 + 1 + 1]? = some (.cells #[t] 4) := by
    intro a b t W h
    rw [hbx] at h
    exact ⟨h.box (_, _) (by simp), h.box (_, _) (by simp), h.box (_, _) (by simp), h.box (_, _) (by simp)⟩
  have hsafe : ∀ {a b t W W'}, Boxes (bx a b t) w W → Safe W1.heap.size (w.heap.size + 1 + 1 + 1 + 1) W W' → Boxes (bx a b t) w W' := by
    intro a b t W W' h k
    refine h.safe k ?_ (by omega) (by omega) h1w
    rw [hbx]; intro p hp; simp at hp
    rcases hp with rfl | rfl | rfl | rfl <;> exact ⟨by simp only; omega, by simp only; omega⟩
  refine range_each (n := 7) (c := w.heap.size + 1 + 1 + 1 + 1) hs' rfl (one_cell n0) (one_frozen n0 0) (by omega)
    (fun pre W => Boxes (bx (.int .i64 0) (.int .i64 0) (.bool false)) w W ∧ pre.any (canForce g.near s) = false) (fun k W => k = .ret ∧ ∃ v : Nat, nextM g.near s = some v ∧ Boxes (bx (.int .i64 v) (.int .i64 (low (andNot (g.near v) s))) (.bool true)) w W) (fun pre W W' h k => ⟨hsafe h.1 k, h.2⟩) (fun _ W W' h k => ⟨h.1, h.2.imp fun v q => ⟨q.1, hsafe q.2 k⟩⟩) (fun _ _ h => h.1.tab)
    ⟨⟨by rw [hbx]; intro p hp; simp at hp; rcases hp with rfl | rfl | rfl | rfl <;> assumption, tab_below bW' h1w HT.out, bW'⟩, rfl⟩
    (fun x => { tmps := #[.agg g.cells, .int .u64 (s : Nat), .pointer (some ⟨w.heap.size, 0, none⟩), .pointer (some ⟨w.heap.size + 1, 0, none⟩), .pointer (some ⟨w.heap.size + 1 + 1, 0, none⟩), .pointer (some ⟨w.heap.size + 1 + 1 + 1, 0, none⟩), .int .i64 (x : Int), undef, .int .u64 (s : Nat), .func (.func 88) #[] #[.pointer (some ⟨w.heap.size + 1 + 1 + 1 + 1, 0, none⟩)], .int .i64 (x : Int), undef, undef, undef, undef, undef, undef, undef, undef, undef, undef, undef, undef, undef, undef], defers := [] }) ?assign ?body ?done ?stop
  case assign =>
    intro l x W K hK
    gi_wp2
    exact hK
  case body =>
    intro l D pre x rest W hD hDl hlW hpre hb hnl hnD
    have hx : s.testBit x = true := (mem_bitsOf.1 (by rw [← hpre]; simp)).2
    have hx12 : x < 12 := Nat.lt_of_lt_of_le (bit_lt HS.out hx) HG.out.le
    obtain ⟨e0, e1, e2, e3⟩ := BX hb.1
    have cn := near_cell g e0 x hx12
    have cs := one_cell e1
    have c2 : W.cell? ⟨w.heap.size + 1 + 1, 0, none⟩ = some (.int .i64 0) := by unfold World.cell?; rw [e2]; rfl
    have c3 : W.cell? ⟨w.heap.size + 1 + 1, 1, none⟩ = some (.int .i64 0) := by unfold World.cell?; rw [e2]; rfl
    have f2 : W.frozen? ⟨w.heap.size + 1 + 1, 0, none⟩ = false := one_frozen e2 0
    have f3 : W.frozen? ⟨w.heap.size + 1 + 1, 1, none⟩ = false := one_frozen e2 1
    have ct := one_cell e3
    have ft := one_frozen e3 0
    have hx0 : (0 : Int) ≤ (x : Int) := by omega
    have hx1 : (x : Int) < 12 := by omega
    have hnx : g.near x < 2 ^ g.n := HG.out.near x
    have hnx' : g.near x < 2 ^ 64 := Nat.lt_of_lt_of_le hnx (Nat.pow_le_pow_right (by decide) (by have := HG.out.le; omega))
    have hd12 : andNot (g.near x) s < 4096 := Nat.lt_of_lt_of_le (andNot_lt hnx) (Nat.pow_le_pow_right (by decide) HG.out.le)
    have HE := Lib.hid (M.nu_andNot (g.near x) s hnx')
    have HB := Lib.hid hb
    have HP := Lib.hid hpre
    have E2 := Lib.hid e2
    have E3 := Lib.hid e3
    clear hb hpre hx hnx hnx' e0 e1 e2 e3
    gi_wp2_with fail
    refine quiet_round rfl (by kernel_rfl) (by kernel_rfl) (by kernel_rfl) ?_
    repeat (gi_big_quiet_step (fail))
    refine wpQuietIn_nil ?_
    rintro _ ⟨nq, rfl⟩
    rw [HE.out]
    have HTn := (HB.out.1.drew nq).tab
    have HTn' := Lib.hid HTn
    clear HTn
    gi_wp2_with fail
    refine (CallsIn.inRound l (callsIn_wide.2 (size_any _ hd12 _))).mono ?_
    rintro e w' ⟨rfl, rfl⟩
    by_cases hcd : card (andNot (g.near x) s) = 1
    · have hcb : ((card (andNot (g.near x) s) : Int) == 1) = true := by rw [beq_iff_eq]; omega
      have hpos : 0 < andNot (g.near x) s := by
        rcases Nat.eq_zero_or_pos (andNot (g.near x) s) with h | h
        · rw [h] at hcd; exact absurd hcd (by decide)
        · exact h
      have HC := Lib.hid hcd
      clear hcd
      gi_wp2_with fail
      refine (CallsIn.inRound l (callsIn_wide.2 (tz_any _ hpos hd12 _ HTn'.out))).mono ?_
      rintro e w' ⟨rfl, rfl⟩
      gi_wp2
      obtain ⟨z0, z1, z2, z3, z4⟩ := store_pair_one (W := W.drewN nq) (B := w.heap.size) (v0 := .int .i64 x) (v1 := .int .i64 (low (andNot (g.near x) s))) (v2 := .bool true) E2.out E3.out (by omega) (by omega) (by omega)
      refine ⟨⟨z2 _ (by omega) (by omega), z2 _ (by omega) (by omega), z2 _ (by omega) (by omega)⟩, rfl, x, ?_, ?_⟩
      · unfold nextM
        rw [← HP.out, List.find?_append, List.find?_eq_none.2 (by have := HB.out.2; simpa using this)]
        simp [canForce, HC.out]
      · have hq := HB.out.1.drew nq
        obtain ⟨e0, e1, _, _⟩ := BX hq
        refine ⟨?_, tab_same (z2 1 (by omega) (by omega)) (by rw [z3]; exact Nat.le_refl _) hq.tab, hq.below.trans z4⟩
        rw [hbx]; intro p hp; simp at hp
        rcases hp with rfl | rfl | rfl | rfl
        · exact (z2 _ (by omega) (by omega)).trans e0
        · exact (z2 _ (by omega) (by omega)).trans e1
        · exact z0
        · exact z1
    · have hcb : ((card (andNot (g.near x) s) : Int) == 1) = false := by rw [beq_eq_false_iff_ne]; omega
      have HC := Lib.hid hcd
      clear hcd
      gi_wp2
      refine ⟨⟨rfl, rfl, rfl⟩, HB.out.1.drew nq, ?_⟩
      rw [List.any_append, HB.out.2]
      simp [canForce, HC.out]
  case done =>
    intro D W hD hb hDD
    obtain ⟨e0, e1, e2, e3⟩ := BX hb.1
    have c2 : W.cell? ⟨w.heap.size + 1 + 1, 0, none⟩ = some (.int .i64 0) := by unfold World.cell?; rw [e2]; rfl
    have c3 : W.cell? ⟨w.heap.size + 1 + 1, 1, none⟩ = some (.int .i64 0) := by unfold World.cell?; rw [e2]; rfl
    have f2 : W.frozen? ⟨w.heap.size + 1 + 1, 0, none⟩ = false := one_frozen e2 0
    have f3 : W.frozen? ⟨w.heap.size + 1 + 1, 1, none⟩ = false := one_frozen e2 1
    have ct := one_cell e3
    have ft := one_frozen e3 0
    have HB := Lib.hid hb
    have E2 := Lib.hid e2
    have E3 := Lib.hid e3
    clear hb e0 e1 e2 e3
    unfold marked
    gi_wp2
    obtain ⟨z0, z1, z2, z3, z4⟩ := store_pair_one (W := W) (B := w.heap.size) (v0 := .int .i64 0) (v1 := .int .i64 0) (v2 := .bool false) E2.out E3.out (by omega) (by omega) (by omega)
    generalize ((W.setCell _ _).setCell _ _).setCell _ _ = W2 at z0 z1 z2 z3 z4 ⊢
    refine ⟨by simp, .inl ⟨_, _, rfl, run_takeDeferred ((z2 D (by omega) (by omega)).trans hDD), ?_⟩⟩
    have hv : nextM g.near s = none := by unfold nextM; rw [List.find?_eq_none]; have := HB.out.2; simpa using this
    have hV : nextV g.near s = .tuple #[.agg #[.int .i64 0, .int .i64 0], .bool false] := by unfold nextV; rw [hv]
    rw [hV]
    have hk : ∀ k, k ≠ D → (W2.putObj D (.deferred none)).heap[k]? = W2.heap[k]? := fun k hk => World.putObj_heap_other hk
    have c2 : (W2.putObj D (.deferred none)).cell? ⟨w.heap.size + 1 + 1, 0, none⟩ = some (.int .i64 0) := by unfold World.cell?; rw [hk _ (by show w.heap.size + 1 + 1 ≠ D; omega), z0]; rfl
    have c3 : (W2.putObj D (.deferred none)).cell? ⟨w.heap.size + 1 + 1, 1, none⟩ = some (.int .i64 0) := by unfold World.cell?; rw [hk _ (by show w.heap.size + 1 + 1 ≠ D; omega), z0]; rfl
    have ct := put_cell (D := D) (one_cell z1) (show w.heap.size + 1 + 1 + 1 ≠ D by omega) (.deferred none)
    refine ⟨.tuple #[.agg #[.int .i64 0, .int .i64 0], .bool false], ?_, rfl, below_take (HB.out.1.below.trans z4) (by omega) _⟩
    simp [results, Tryd.results87, go_sem, c2, c3, ct]
  case stop =>
    rintro D k W hD ⟨rfl, v, hv, hb⟩ hDD
    unfold marked
    gi_wp2
    obtain ⟨e0, e1, e2, e3⟩ := BX hb
    refine ⟨by simp, .inl ⟨_, _, rfl, run_takeDeferred hDD, ?_⟩⟩
    have hV : nextV g.near s = .tuple #[.agg #[.int .i64 v, .int .i64 (low (andNot (g.near v) s))], .bool true] := by unfold nextV; rw [hv]
    rw [hV]
    have hk : ∀ k, k ≠ D → (W.putObj D (.deferred none)).heap[k]? = W.heap[k]? := fun k hk => World.putObj_heap_other hk
    have c2 : (W.putObj D (.deferred none)).cell? ⟨w.heap.size + 1 + 1, 0, none⟩ = some (.int .i64 v) := by unfold World.cell?; rw [hk _ (by show w.heap.size + 1 + 1 ≠ D; omega), e2]; rfl
    have c3 : (W.putObj D (.deferred none)).cell? ⟨w.heap.size + 1 + 1, 1, none⟩ = some (.int .i64 (low (andNot (g.near v) s))) := by unfold World.cell?; rw [hk _ (by show w.heap.size + 1 + 1 ≠ D; omega), e2]; rfl
    have ct := put_cell (D := D) (one_cell e3) (show w.heap.size + 1 + 1 + 1 ≠ D by omega) (.deferred none)
    refine ⟨.tuple #[.agg #[.int .i64 v, .int .i64 (low (andNot (g.near v) s))], .bool true], ?_, rfl, below_take hb.below (by omega) _⟩
    simp [results, Tryd.results87, go_sem, c2, c3, ct]
end Go.Proofs.YtpbeaaihdmfnlaaDoor.H

/- ### Wf -/
namespace Go.Proofs.YtpbeaaihdmfnlaaDoor.H
open Go Go.RowKit Go.Shelf Go.Proofs.YtpbeaaihdmfnlaaDoor.M
attribute [local go_sem] Oper.semAt_some wide_fn
attribute [local go_sem ↓ high] loadAt81
attribute [local go_sem] rowOk_drew cellsAt_drew run_loadRow
/-- The forces from a set on, and what is wet in the end. -/
def chronL (near : Nat → Nat) : Nat → Nat → List (Nat × Nat) × Nat
  | 0, s => ([], s)
  | k + 1, s => match nextM near s with
    | none => ([], s)
    | some v => ((v, low (andNot (near v) s)) :: (chronL near k (s ||| 2 ^ low (andNot (near v) s))).1, (chronL near k (s ||| 2 ^ low (andNot (near v) s))).2)
def pairsN (l : List (Nat × Nat)) : List Value := l.flatMap fun p => [.int .i64 (p.1 : Int), .int .i64 (p.2 : Int)]
theorem pairsN_snoc (l : List (Nat × Nat)) (a b : Nat) : pairsN l ++ [.int .i64 (a : Int), .int .i64 (b : Int)] = pairsN (l ++ [(a, b)]) := by simp [pairsN]
theorem info108 : (Tryd.prog.info? 108).map (fun i => (i.zero, i.size, i.bytes)) = some (some (.agg #[.int .i64 0, .int .i64 0]), 2, 16) := by kernel_rfl
theorem row_below {W W' : World} {B base : Nat} {e : TypeId} {size n : Nat} {v : Value} {xs : List Value} (h : W.ownsRow base e size v n xs) (hb : Below B W W') (hB : W.heap.size ≤ B) : W'.ownsRow base e size v n xs := by
  refine ⟨h.1, ?_⟩
  rcases h.2 with h2 | ⟨g, cap, cur, rfl, hg, hh, r⟩
  · exact .inl h2
  · exact .inr ⟨g, cap, cur, rfl, hg, (hb.block g (Nat.lt_of_lt_of_le (Array.getElem?_eq_some_iff.1 hh).1 hB)).trans hh, r⟩
theorem row_mono {W : World} {base base' : Nat} {e : TypeId} {size n : Nat} {v : Value} {xs : List Value} (h : W.ownsRow base e size v n xs) (hb : base' ≤ base) : W.ownsRow base' e size v n xs := by
  refine ⟨h.1, ?_⟩
  rcases h.2 with h2 | ⟨g, cap, cur, rfl, hg, r⟩
  · exact .inl h2
  · exact .inr ⟨g, cap, cur, rfl, by omega, r⟩
theorem cell_two_new (w : World) (x y : Value) (t : TypeId) : ∀ j u, [x, y][j]? = some u → (w.alloc (.cells #[x, y] t)).cell? ((⟨w.heap.size, 0, none⟩ : Addr).add j) = some u := by
  intro j u hj
  match j, hj with
  | 0, hj => simp at hj; subst hj; simp [Addr.add]
  | 1, hj => simp at hj; subst hj; simp [Addr.add]
/-- A row that grows leaves all blocks that are not its own. -/
theorem grown_same {W w1 : World} {N e sz n : Nat} {v : Value} {xs : List Value} (hrow : W.ownsRow N e sz v n xs) {W' : World} (hW : Below W.heap.size W W') (hg : W'.grownBy w1 v.ownBlock) :
    (∀ k, k < N → k < W.heap.size → w1.heap[k]? = W.heap[k]?) ∧ (∀ k, W.heap.size ≤ k → k < W'.heap.size → w1.heap[k]? = W'.heap[k]?) ∧ W'.heap.size ≤ w1.heap.size ∧ (∀ M, M ≤ N → M ≤ W.heap.size → Below M W w1) := by
  have hs := hW.size
  have hs2 := hg.size
  have a1 : ∀ k, k < N → k < W.heap.size → w1.heap[k]? = W.heap[k]? := fun k hk hk2 => by
    refine (hg.block k (by omega) ?_).trans (hW.block k hk2)
    intro he
    have := (row_block hrow k he.symm).1
    omega
  refine ⟨a1, fun k hk hk2 => hg.block k hk2 ?_, hs2, fun M hM hM2 => ⟨hg.os.trans hW.os, hg.tape.trans hW.tape, hg.output.trans hW.output, by omega, fun k hk => a1 k (by omega) (by omega)⟩⟩
  intro he
  have := (row_block hrow k he.symm).2.1
  omega
theorem low_bit {d : Nat} (h0 : 0 < d) (hd : d < 4096) : d.testBit (low d) = true ∧ low d < 12 := by
  have h : low d ∈ bitsOf d := by rw [rest_small d h0 hd]; exact List.mem_cons_self
  have hb := (mem_bitsOf.1 h).2
  exact ⟨hb, bit_lt (k := 12) hd hb⟩
theorem or_gt {s u : Nat} (h : s.testBit u = false) : s < s ||| 2 ^ u := by
  rcases Nat.lt_or_eq_of_le (Nat.left_le_or (n := s) (m := 2 ^ u)) with h1 | h1
  · exact h1
  · have : (s ||| 2 ^ u).testBit u = true := by rw [Nat.testBit_or, Nat.testBit_two_pow_self]; simp
    rw [← h1, h] at this; cases this
theorem next_facts {near : Nat → Nat} {s n v : Nat} (hn : n ≤ 12) (hnear : ∀ v, near v < 2 ^ n) (h : nextM near s = some v) :
    v ∈ bitsOf s ∧ card (andNot (near v) s) = 1 ∧ s.testBit (low (andNot (near v) s)) = false ∧ low (andNot (near v) s) < n := by
  have h1 := List.mem_of_find?_eq_some h
  have h2 := List.find?_some h
  have hc : card (andNot (near v) s) = 1 := by simpa [canForce] using h2
  have hd : andNot (near v) s < 2 ^ n := andNot_lt (hnear v)
  have hd' : andNot (near v) s < 4096 := Nat.lt_of_lt_of_le hd (Nat.pow_le_pow_right (by decide) hn)
  have hp : 0 < andNot (near v) s := by
    rcases Nat.eq_zero_or_pos (andNot (near v) s) with h | h
    · rw [h] at hc; exact absurd hc (by decide)
    · exact h
  have hb := (low_bit hp hd').1
  have hb2 := hb
  rw [testBit_andNot] at hb
  exact ⟨h1, hc, by simpa using (Bool.and_eq_true_iff.1 hb).2, bit_lt hd hb2⟩
set_option maxHeartbeats 1000000 in
set_option maxRecDepth 100000 in
theorem chronicle_any (g : Gr) (hg : g.Ok) (s : Nat) (hs : s < 2 ^ g.n) (w : World) (ht : Tab w) :
    Calls Tryd.prog 78 #[.agg g.cells, .int .u64 s] w fun e w' => ∃ v, e = .returned (.tuple #[v, .int .u64 ((chronL g.near (2 ^ g.n - s) s).2 : Nat)]) ∧
      w'.ownsRow w.heap.size 108 2 v (chronL g.near (2 ^ g.n - s) s).1.length (pairsN (chronL g.near (2 ^ g.n - s) s).1) ∧ Below w.heap.size w w' := by
  have h1w : 1 < w.heap.size := (ht 0 (by decide)).2
  refine (callsIn_wide (n := 9)).1 ?_
  refine callsIn_of_wp Tryd.func78 rfl trivial ?_
  simp only [Tryd.ntmps78, List.size_toArray, List.length_cons, List.length_nil, Nat.reduceAdd, Nat.reduceSub, Array.replicate_succ, Array.replicate_zero, List.push_toArray, List.append_toArray, List.nil_append, List.cons_append]
  have HG := Lib.hid hg
  have HS := Lib.hid hs
  have HT := Lib.hid ht
  clear hg hs ht
  gi_wp2_with fail
  obtain ⟨f0, f1, f2⟩ := lay1 w (.cells g.cells 81)
  generalize w.alloc (.cells g.cells 81) = W0 at f0 f1 f2 ⊢
  obtain ⟨i0, hi, hz0, hz1, hz2⟩ := info_parts info108
  have hle := HG.out.le
  have hp12 : 2 ^ g.n ≤ 4096 := Nat.pow_le_pow_right (by decide) hle
  gi_loopg [1, 6] (2 ^ g.n - s) (fun k s1 s6 W => ∃ (s' : Nat) (pre : List (Nat × Nat)), s1 = .int .u64 (s' : Int) ∧ s' < 2 ^ g.n ∧ 2 ^ g.n ≤ k + s' ∧ pre.length ≤ s' ∧ W.ownsRow (w.heap.size + 1) 108 2 s6 pre.length (pairsN pre) ∧
      W.heap[w.heap.size]? = some (.cells g.cells 81) ∧ Tab W ∧ Below w.heap.size w W ∧ w.heap.size + 1 ≤ W.heap.size ∧ chronL g.near (2 ^ g.n - s) s = (pre ++ (chronL g.near k s').1, (chronL g.near k s').2))
  case atStart => exact ⟨s, [], rfl, HS.out, by have := HS.out; omega, by simp, World.ownsRow_nil _ _ _ _, f0, tab_below f2 h1w HT.out, f2, by omega, by simp⟩
  case round =>
    obtain ⟨s', pre, rfl, hs', hk, hpl, hrow, hg0, hT, hB, hsz, hch⟩ := hrel
    have r0 := rowOk_of hg0
    have r1 := cellsAt_of hg0
    obtain ⟨k', rfl⟩ : ∃ k', gk = k' + 1 := ⟨gk - 1, by omega⟩
    cases hn : nextM g.near s' with
    | none =>
      have hv : nextV g.near s' = .tuple #[.agg #[.int .i64 0, .int .i64 0], .bool false] := by unfold nextV; rw [hn]
      have HV := Lib.hid hv
      have HN := Lib.hid hn
      have HR := Lib.hid hrow
      have HG0 := Lib.hid hg0
      have HTW := Lib.hid hT
      have HB := Lib.hid hB
      have HCH := Lib.hid hch
      have HS' := Lib.hid hs'
      clear hn hrow hg0 hT hB hch hs' hv
      gi_wp2_with fail
      refine (callsIn_wide.2 (next_any g HG.out s' HS'.out _ HTW.out)).mono ?_
      rintro e w1 ⟨rfl, hb1⟩
      rw [HV.out]
      have HB1 := Lib.hid hb1
      clear hb1
      gi_wp2_with fail
      refine bodyPost_ret (results_tmp2 rfl _ _ _) rfl ?_
      have hx := HCH.out
      rw [chronL, HN.out] at hx
      simp only [List.append_nil] at hx
      rw [hx]
      have hz := HB1.out
      refine ⟨u6, rfl, ?_, ?_⟩
      · exact row_mono ((row_below HR.out hz (Nat.le_refl _)).alloc _) (by omega)
      · exact (HB.out.trans (hz.mono HB.out.size)).alloc (by have := hz.size; omega) _
    | some v =>
      obtain ⟨q1, q2, q3, q4⟩ := next_facts hle HG.out.near hn
      have hv : nextV g.near s' = .tuple #[.agg #[.int .i64 v, .int .i64 (low (andNot (g.near v) s'))], .bool true] := by unfold nextV; rw [hn]
      generalize hu : low (andNot (g.near v) s') = u at hv q3 q4
      have HV := Lib.hid hv
      have HN := Lib.hid hn
      have HR := Lib.hid hrow
      have HG0 := Lib.hid hg0
      have HTW := Lib.hid hT
      have HB := Lib.hid hB
      have HCH := Lib.hid hch
      have HS' := Lib.hid hs'
      have HQ := Lib.hid (And.intro q1 (And.intro q2 q3))
      have HU := Lib.hid hu
      have hu0 : (0 : Int) ≤ (u : Int) := by omega
      have hu1 : (u : Int) < 64 := by omega
      have hs12 : s' < 4096 := by omega
      clear hn hrow hg0 hT hB hch hs' hv q1 q2 q3 hu
      gi_wp2_with fail
      refine (callsIn_wide.2 (next_any g HG.out s' HS'.out _ HTW.out)).mono ?_
      rintro e w1 ⟨rfl, hb1⟩
      rw [HV.out]
      have HB1 := Lib.hid hb1
      clear hb1
      have hg1 := HB1.out.size
      have hnw : ∀ j y, [Value.int .i64 (v : Int), .int .i64 (u : Int)][j]? = some y → ((w1.alloc (Obj.cells #[Value.int IntKind.i64 (v : Int), Value.int IntKind.i64 (u : Int)] 108)).alloc (Obj.cells #[Value.int IntKind.i64 (v : Int), Value.int IntKind.i64 (u : Int)] 108)).cell? ((⟨w1.heap.size + 1, 0, none⟩ : Addr).add j) = some y := by
        have := cell_two_new (w1.alloc (Obj.cells #[Value.int IntKind.i64 (v : Int), Value.int IntKind.i64 (u : Int)] 108)) (.int .i64 (v : Int)) (.int .i64 (u : Int)) 108
        rw [World.size_alloc] at this; exact this
      have hrw := ((row_below HR.out HB1.out (Nat.le_refl _)).alloc (Obj.cells #[Value.int IntKind.i64 (v : Int), Value.int IntKind.i64 (u : Int)] 108)).alloc (Obj.cells #[Value.int IntKind.i64 (v : Int), Value.int IntKind.i64 (u : Int)] 108)
      have hbw : Below wr.heap.size wr ((w1.alloc (Obj.cells #[Value.int IntKind.i64 (v : Int), Value.int IntKind.i64 (u : Int)] 108)).alloc (Obj.cells #[Value.int IntKind.i64 (v : Int), Value.int IntKind.i64 (u : Int)] 108)) := HB1.out.trans ((((Below.refl wr.heap.size w1).alloc HB1.out.size _)).alloc (by simp; omega) _)
      have hc1 : ((w1.alloc (Obj.cells #[Value.int IntKind.i64 (v : Int), Value.int IntKind.i64 (u : Int)] 108)).alloc (Obj.cells #[Value.int IntKind.i64 (v : Int), Value.int IntKind.i64 (u : Int)] 108)).cell? ⟨w1.heap.size, 1, none⟩ = some (.int .i64 (u : Int)) := by simp
      have HW1 := Lib.hid hnw
      have HW2 := Lib.hid hrw
      have HW3 := Lib.hid hbw
      have HW4 := Lib.hid hc1
      clear hnw hrw hbw hc1
      gi_wp2_with (gi_at_builtin; refine wpListIn_append_own _ rfl _ _ 104 rfl (w.heap.size + 1) 108 i0 (.agg #[.int .i64 0, .int .i64 0]) 2 16 Tryd.underlying104 hi hz0 hz1 hz2 rfl (by decide) u6 pre.length (pairsN pre) rfl HW2.out ⟨w1.heap.size + 1, 0, none⟩ 1 1 [.int .i64 (v : Int), .int .i64 (u : Int)] rfl rfl HW1.out (by simp [Value.oneCell']) (by unfold maxLen; omega) (by omega) (by simp; omega) ?_; intro v' w2 hown' hgrow _; obtain ⟨g', cap', rfl⟩ := ownsRow_succ hown'; obtain ⟨ha1, ha2, ha3, ha4⟩ := grown_same HR.out HW3.out hgrow; have cf := (cell_of_heap (ha2 w1.heap.size hg1 (by simp only [World.size_alloc]; omega)) ⟨w1.heap.size, 1, none⟩ rfl).trans HW4.out; have HO := Lib.hid hown'; have HA1 := Lib.hid ha1; have HA3 := Lib.hid ha3; have HA4 := Lib.hid ha4; clear hown' hgrow ha1 ha2 ha3 ha4)
      gi_roundg k'
      case measure => omega
      case rel =>
        rw [M.u64_shl_one u (by omega), M.nu_or s' (2 ^ u) (by omega) (Nat.pow_lt_pow_right (by decide) (by omega))]
        obtain ⟨hq1, hq2, hq3⟩ := HQ.out
        have hlt := or_gt hq3
        have hx := HCH.out
        rw [chronL, HN.out] at hx
        simp only [HU.out] at hx
        refine ⟨s' ||| 2 ^ u, pre ++ [(v, u)], rfl, Nat.or_lt_two_pow HS'.out (Nat.pow_lt_pow_right (by decide) q4), by omega, by simp; omega, ?_, ?_, ?_, ?_, ?_, ?_⟩
        · rw [← pairsN_snoc]; simpa using HO.out
        · exact (HA1.out _ (by omega) (by omega)).trans HG0.out
        · exact tab_below (HA4.out w.heap.size (by omega) (by omega)) h1w HTW.out
        · exact HB.out.trans (HA4.out _ (by omega) (by omega))
        · have := HA3.out; simp only [World.size_alloc] at this; omega
        · rw [hx]; simp
end Go.Proofs.YtpbeaaihdmfnlaaDoor.H

/- ### ArrEq -/
namespace Go.Proofs.YtpbeaaihdmfnlaaDoor.ArrEq
open Go
section
variable {P : Program} (w : World)
theorem run_equalIn_int (d : Nat) {T : TypeId} {k : IntKind} (hu : P.underlying T = some (.int k)) (x y : Int) :
    (Op.equalIn (d + 1) T (.int k x) (.int k y)).run P w = .ok (x == y) w := by
  simp [Op.equalIn, run_underlying hu]
theorem eqArr2 (d : Nat) {T E : TypeId} {k : IntKind} (hu : P.underlying T = some (.array 2 E)) (he : P.underlying E = some (.int k))
    (ha : (isAgg E).run P w = .ok false w) (hs : (sizeOf E).run P w = .ok 1 w) (x0 y0 x1 y1 : Int) :
    (Op.equalIn (d + 2) T (.agg #[.int k x0, .int k x1]) (.agg #[.int k y0, .int k y1])).run P w = .ok (x0 == y0 && (x1 == y1)) w := by
  have p0 : ∀ (a b : Value), (part E #[a, b] 0).run P w = .ok a w := by
    intro a b
    simp [part, Sem.run_bind, Result.andThen, ha]
  have p1 : ∀ (a b : Value), (part E #[a, b] 1).run P w = .ok b w := by
    intro a b
    simp [part, Sem.run_bind, Result.andThen, ha]
  rw [Op.equalIn]
  simp only [Sem.run_bind, run_underlying hu, Result.andThen, hs]
  simp only [Std.Legacy.Range.forIn_eq_forIn_range']
  simp [Std.Legacy.Range.size, List.range'_succ, Sem.run_bind, p0, run_equalIn_int w d he, Result.andThen]
  cases h0 : (x0 == y0) <;> cases h1 : (x1 == y1) <;> simp_all [run_equalIn_int w d he, Result.andThen]
end
end Go.Proofs.YtpbeaaihdmfnlaaDoor.ArrEq

/- ### Gx0 -/
namespace Go.Proofs.YtpbeaaihdmfnlaaDoor.G
open Go.RowKit Go.Proofs.YtpbeaaihdmfnlaaDoorW.PrintWords Go.Proofs.YtpbeaaihdmfnlaaDoorW.PrintLast Go.Proofs.YtpbeaaihdmfnlaaDoorW.PrintMore
attribute [local go_sem] max2_int min2_int max_two min_two max_three min_three max_four min_four   -- for this text's walks alone
set_option linter.unusedVariables false
set_option linter.unusedSimpArgs false
def errW : Option Int → Value
  | none => .nilIface
  | some c => .iface 0 (.int .i64 c)
theorem errW_none : errW none = .nilIface := rfl
theorem errW_some (c : Int) : errW (some c) = .iface 0 (.int .i64 c) := rfl
theorem info3 : (Tryd.prog.info? 3).map (fun i => (i.zero, i.size, i.bytes)) = some (some (.int .i64 0), 1, 8) := by kernel_rfl
theorem info24 : (Tryd.prog.info? 24).map (fun i => (i.zero, i.size, i.bytes)) = some (some (.slice none 0 0), 1, 24) := by kernel_rfl
theorem info48 : (Tryd.prog.info? 48).map (fun i => (i.zero, i.size, i.bytes)) = some (some (.agg #[(.int .i64 0), (.int .i64 0)]), 2, 16) := by kernel_rfl
structure S48 where
  f0 : Int
  f1 : Int
def z48 : S48 := ⟨(0 : Int), (0 : Int)⟩
def k48 : Kd S48 := Kd.iso (Kd.pair (Kd.int .i64) (Kd.int .i64)) (fun x : S48 => (x.f0, x.f1))
theorem k48_open {w : World} {x : S48} {cs : List Value} (h : k48.K w x cs) : cs = [.int .i64 x.f0, .int .i64 x.f1] := by
  obtain ⟨_, _, rfl, rfl, rfl⟩ := h
  exact rfl
theorem k48_mk (w : World) (x : S48)  : k48.K w x [.int .i64 x.f0, .int .i64 x.f1] := ⟨[.int .i64 x.f0], [.int .i64 x.f1], rfl, rfl, rfl⟩
theorem k48_mkM (w : World) (base : Nat) (ok : Nat → Prop) (x : S48)  : k48.M w base ok x [.int .i64 x.f0, .int .i64 x.f1] := ⟨[.int .i64 x.f0], [.int .i64 x.f1], rfl, rfl, rfl⟩
def rd_T48 (xs : List S48) (i : Int) : S48 := xs.getD i.toNat z48
theorem at_T48 {w : World} {A : Option Addr} {n : Nat} {xs : List S48} (h : Kd.C k48 w A n xs) (i : Int) (h0 : 0 ≤ i) (h1 : i < n) : ∃ ad , A = some ad ∧ w.cell? (ad.add (i.toNat * 2)) = some (.int .i64 (rd_T48 xs i).f0) ∧ w.cell? ⟨(ad.add (i.toNat * 2)).block, (ad.add (i.toNat * 2)).off + 1, none⟩ = some (.int .i64 (rd_T48 xs i).f1) := by
  obtain ⟨ad, c, e, _, hK, hc0⟩ := Kd.C_get h z48 i h0 h1
  have hc : ∀ j u, c[j]? = some u → w.cell? (ad.add (i.toNat * 2 + j)) = some u := hc0
  obtain rfl := k48_open hK
  exact ⟨ad, e, hc 0 _ rfl, by rw [← add_field _ _ 1 (by omega)]; exact hc 1 _ rfl⟩
def rd_L3 (xs : List (List Int)) (i : Int) : (List Int) := xs.getD i.toNat ([] : List Int)
theorem at_L3 {w : World} {A : Option Addr} {n : Nat} {xs : List (List Int)} (h : Kd.C (Kd.slice 3 (Kd.int .i64)) w A n xs) (i : Int) (h0 : 0 ≤ i) (h1 : i < n) : ∃ ad A0 c0, A = some ad ∧ w.cell? (ad.add i.toNat) = some (.slice A0 (rd_L3 xs i).length c0) ∧ (rd_L3 xs i).length ≤ c0 ∧ (Kd.int .i64).C w A0 (rd_L3 xs i).length (rd_L3 xs i) := by
  obtain ⟨ad, c, e, _, hK, hc0⟩ := Kd.C_get h ([] : List Int) i h0 h1
  have hc : ∀ j u, c[j]? = some u → w.cell? (ad.add (i.toNat * 1 + j)) = some u := hc0
  obtain ⟨A0, c0, rfl, l0, g0⟩ := hK
  exact ⟨ad, A0, c0, e, by have hq := hc 0 _ rfl; rwa [Nat.mul_one, Nat.add_zero] at hq, l0, g0⟩
end Go.Proofs.YtpbeaaihdmfnlaaDoor.G

/- ### Gx2 -/
namespace Go.Proofs.YtpbeaaihdmfnlaaDoor.G
open Go.RowKit Go.Proofs.YtpbeaaihdmfnlaaDoorW.PrintWords Go.Proofs.YtpbeaaihdmfnlaaDoorW.PrintLast Go.Proofs.YtpbeaaihdmfnlaaDoorW.PrintMore
attribute [local go_sem] max2_int min2_int max_two min_two max_three min_three max_four min_four   -- for this text's walks alone
set_option linter.unusedVariables false
set_option linter.unusedSimpArgs false
def numnahlaw06_pairs.f (l0 : List (S48)) : Option ((List (S48))) := if 0 ≤ (mn (l0.length : Int) 80) then (if (mn (l0.length : Int) 80) ≤ (l0.length : Int) then ((some (l0.take ((mn (l0.length : Int) 80) : Int).toNat : List (S48))).bind fun y101 => (if ([] : List (S48)).length + y101.length < 8796093022208 then (some (([] : List (S48)) ++ y101)) else (none))) else (none)) else (none)
set_option maxHeartbeats 8000000 in
set_option maxRecDepth 100000 in
theorem numnahlaw06_pairs.calls (A0 : Option Addr) (c0 : Nat) (l0 : List (S48)) (r : List (S48)) (w : World) (hr0 : Kd.C k48 w A0 l0.length l0) (hc0 : l0.length ≤ c0) (h : numnahlaw06_pairs.f l0 = some r) :
    Calls Tryd.prog 17 #[.slice A0 l0.length c0] w fun e w' => ∃ v0_ : Value, e = .returned (v0_) ∧ Kd.R k48 48 w' w.heap.size (fun _ => True) v0_ r ∧ Below w.heap.size w w' := by
  have HR0 := Aside0.mk hr0
  have HC0 := Aside0.mk hc0
  clear hr0 hc0
  have HB := Aside0.mk (Below.refl w.heap.size w)
  have H : (if 0 ≤ (mn (l0.length : Int) 80) then (if (mn (l0.length : Int) 80) ≤ (l0.length : Int) then ((some (l0.take ((mn (l0.length : Int) 80) : Int).toNat : List (S48))).bind fun y101 => (if ([] : List (S48)).length + y101.length < 8796093022208 then (some (([] : List (S48)) ++ y101)) else (none))) else (none)) else (none)) = some r := h
  clear h
  obtain ⟨ji2, hji2⟩ : ∃ j_ : Int, (mn (l0.length : Int) 80) = j_ := ⟨_, rfl⟩
  replace H : (if 0 ≤ (ji2) then (if (ji2) ≤ (l0.length : Int) then ((some (l0.take ((ji2) : Int).toNat : List (S48))).bind fun y101 => (if ([] : List (S48)).length + y101.length < 8796093022208 then (some (([] : List (S48)) ++ y101)) else (none))) else (none)) else (none)) = some r := by first | (rw [hji2] at H; exact H) | (simp only [hji2] at H ⊢; exact H)
  (try (have hji2h : ji2 ≤ 80 := by (rw [← hji2]; unfold mn; (repeat' split) <;> omega)))
  (try (have hji2g : ji2 ≤ 64 := by omega))
  (try (have hji2l : 0 ≤ ji2 := by (rw [← hji2]; unfold mn; (repeat' split) <;> omega)))
  (try (have hji2m : 0 ≤ ji2 := by omega))
  have hji2_ : (if 80 < (l0.length : Int) then 80 else (l0.length : Int)) = ji2 := hji2
  by_cases c3 : 0 ≤ (ji2)
  · rw [if_pos c3] at H
    have c3b0 := eq_true c3
    have c3b1 : decide (0 ≤ (ji2)) = true := decide_eq_true c3
    clear c3
    by_cases c4 : (ji2) ≤ (l0.length : Int)
    · rw [if_pos c4] at H
      have c4b0 := eq_true c4
      have c4b1 : decide ((ji2) ≤ (l0.length : Int)) = true := decide_eq_true c4
      clear c4
      obtain ⟨y101, hy101⟩ : ∃ y_ : List (S48), y_ = (l0.take ((ji2) : Int).toNat) := ⟨_, rfl⟩
      replace H : (if ([] : List (S48)).length + y101.length < 8796093022208 then (some (([] : List (S48)) ++ y101)) else (none)) = some r := by first | (rw [hy101]; with_reducible exact H) | (have H2_ := (Option.bind_some _ _).symm.trans H; rw [hy101]; with_reducible exact H2_) | (have H2_ := (Option.bind_some _ _).symm.trans H; with_reducible exact H2_) | with_reducible exact H | (rw [hy101]; exact H) | exact H
      have Ny101 := Aside0.mk hy101
      clear hy101
      by_cases c5 : ([] : List (S48)).length + y101.length < 8796093022208
      · rw [if_pos c5] at H
        have LMc5 := Aside0.mk c5
        clear c5
        obtain ⟨y105, hy105⟩ : ∃ y_ : List (S48), y_ = (([] : List (S48)) ++ y101) := ⟨_, rfl⟩
        replace H : (some y105) = some r := by first | (rw [hy105]; with_reducible exact H) | (have H2_ := (Option.bind_some _ _).symm.trans H; rw [hy105]; with_reducible exact H2_) | (have H2_ := (Option.bind_some _ _).symm.trans H; with_reducible exact H2_) | with_reducible exact H | (rw [hy105]; exact H) | exact H
        have Ny105 := Aside0.mk hy105
        clear hy105
        obtain rfl := Option.some.inj H
        have q6 : ((ji2) : Int) ≤ ((l0.length : Int) : Int) := of_decide_eq_true (by first | (with_reducible assumption) | assumption)
        obtain ⟨i06, hi06, _, hsz6, _⟩ := info_parts info48
        have hroom6 : l0.length ≤ c0 := HC0.out
        have hC6 : Kd.C k48 _ A0 l0.length l0 := HR0.out
        have hcut6 := cut_to (P := Tryd.prog) 22 48 .i64 Tryd.underlying22 hi06 A0 l0.length c0 (ji2) (of_decide_eq_true (by first | (with_reducible assumption) | assumption)) q6 hroom6
        have hr6 := Kd.C_take (m := ((ji2) : Int).toNat) hC6 (by omega)
        have hy6 : y101.length = ((ji2) : Int).toNat := (by rw [Ny101.out, List.length_take]; omega)
        rw [← Ny101.out] at hr6
        rw [← hy6] at hcut6
        have HR104 := Aside0.mk hr6
        have HC104 := Aside0.mk (show y101.length ≤ c0 from by omega)
        clear hr6 hC6 hroom6 hi06 hsz6
        have KY6 := Aside0.mk hy6
        clear hy6
        replace q6 := eq_true q6
        go_enter Tryd.func17, Tryd.ntmps17
        go_wp2_with (first | ((with_reducible refine gate_builtin (b := .append) (xs := #[.tmp 4, .tmp 9]) rfl ?_); at_builtin; refine Kd.R_append_rows k48 (w0 := w) w.heap.size rfl (.tmp 4) (.tmp 9) 22 48 (.agg #[(.int .i64 0), (.int .i64 0)]) 16 rfl Tryd.underlying22 info48 rfl (by decide) (by omega) (.slice none 0 0) ([] : List (S48)) y101 _ _ _ (fun _ => True) (fun _ => False) rfl rfl ?aO ?aR (fun _ _ h => h) (fun _ h => h.elim) ?aF ?aB ?aS ?aL ?_; (case aR => repeat (first | exact HR104.out | (with_reducible refine Kd.C_alloc ?_ _) | (with_reducible refine Kd.C_drewN ?_ _) | (with_reducible refine Kd.C_drew ?_))); (case aB => exact (by repeat (first | (with_reducible first | exact HB.out | apply below_alloc | apply pw_below_drewN | apply below_drew1) | exact HB.out))); (case aF => exact (fun _ _ => trivial)); (case aO => exact ((Kd.R_nil _ _ _ _ (fun _ => True)))); (case aS => exact (below_size (by repeat (first | (with_reducible first | exact HB.out | apply below_alloc | apply pw_below_drewN | apply below_drew1) | exact HB.out)))); (case aL => have := LMc5.out; omega); intro v106 w7 ho hb hg hat; rw [← Ny105.out] at ho; have n0_ := Aside0.mk (hb); have n1_ := Aside0.mk (ho); clear HB; have HB := n0_; have HO107 := n1_; clear n0_ n1_; clear ho hb hg hat))
        go_ret
        exact ⟨_, by first | rfl | (simp [errW_none, errW_some] <;> rfl) | (simp only [← hji2]; first | rfl | (simp [errW_none, errW_some] <;> rfl)) | (simp [*, errW_none, errW_some] <;> rfl), by (with_reducible repeat (first | apply Kd.R_alloc | apply Kd.R_drewN | apply Kd.R_drew)); exact HO107.out, by repeat (first | (with_reducible first | exact HB.out | apply below_alloc | apply pw_below_drewN | apply below_drew1) | exact HB.out)⟩
      · rw [if_neg c5] at H
        exact absurd H (by simp)
    · rw [if_neg c4] at H
      exact absurd H (by simp)
  · rw [if_neg c3] at H
    exact absurd H (by simp)
def wetting_within.f (a0 : Int) (a1 : Int) (a2 : Int) : Option (Bool) := if a0 ≥ a1 then (some (decide (a0 ≤ a2))) else (some false)
set_option maxHeartbeats 8000000 in
set_option maxRecDepth 100000 in
theorem wetting_within.calls (a0 : Int) (a1 : Int) (a2 : Int) (r : Bool) (w : World) (h : wetting_within.f a0 a1 a2 = some r) :
    Calls Tryd.prog 68 #[.int .i64 a0, .int .i64 a1, .int .i64 a2] w fun e w' => e = .returned (.bool r) ∧ Drawn0 w w' := by
  have H : (if a0 ≥ a1 then (some (decide (a0 ≤ a2))) else (some false)) = some r := h
  clear h
  by_cases c4 : a0 ≥ a1
  · rw [if_pos c4] at H
    have c4b0 : decide (a1 ≤ a0) = true := decide_eq_true c4
    clear c4
    obtain rfl := Option.some.inj H
    go_enter Tryd.func68, Tryd.ntmps68
    go_wp2
    go_ret
    exact ⟨by first | rfl | (simp; done) | (simp [*]; done), by repeat (first | exact Drawn0.refl _ | apply Drawn0.step)⟩
  · rw [if_neg c4] at H
    have c4b0 : decide (a1 ≤ a0) = false := decide_eq_false c4
    clear c4
    obtain rfl := Option.some.inj H
    go_enter Tryd.func68, Tryd.ntmps68
    go_wp2
    go_ret
    exact ⟨by first | rfl | (simp; done) | (simp [*]; done), by repeat (first | exact Drawn0.refl _ | apply Drawn0.step)⟩
def wetting_places_has.f (a0 : Int) (a1 : Int) : Option (Bool) := if 0 ≤ a1 then (some ((Go.bits .and .u64 (shr .u64 a0 a1) 1) == 1)) else (none)
set_option maxHeartbeats 8000000 in
set_option maxRecDepth 100000 in
theorem wetting_places_has.calls (a0 : Int) (a1 : Int) (r : Bool) (w : World) (h : wetting_places_has.f a0 a1 = some r) :
    Calls Tryd.prog 71 #[.int .u64 a0, .int .i64 a1] w fun e w' => e = .returned (.bool r) ∧ Drawn0 w w' := by
  have H : (if 0 ≤ a1 then (some ((Go.bits .and .u64 (shr .u64 a0 a1) 1) == 1)) else (none)) = some r := h
  clear h
  by_cases c3 : 0 ≤ a1
  · rw [if_pos c3] at H
    have c3b0 := eq_true c3
    have c3b1 : decide (0 ≤ a1) = true := decide_eq_true c3
    clear c3
    obtain ⟨ji4, hji4⟩ : ∃ j_ : Int, (shr .u64 a0 a1) = j_ := ⟨_, rfl⟩
    replace H : (some ((Go.bits .and .u64 (ji4) 1) == 1)) = some r := by first | (rw [hji4] at H; exact H) | (simp only [hji4] at H ⊢; exact H)
    have hji4_ : (a0 / 2 ^ min a1.toNat 64) = ji4 := hji4
    have hji4z : a1 ≤ 64 → (a0 / 2 ^ a1.toNat) = ji4 := shr_small hji4
    obtain rfl := Option.some.inj H
    go_enter Tryd.func71, Tryd.ntmps71
    go_wp2
    go_ret
    exact ⟨by first | rfl | (simp; done) | (simp only [← hji4] <;> (first | rfl | simp)) | (simp [*]; done), by repeat (first | exact Drawn0.refl _ | apply Drawn0.step)⟩
  · rw [if_neg c3] at H
    exact absurd H (by simp)
def bits_Mul32.f (a0 : Int) (a1 : Int) : Option (Int × Int) := some (((IntKind.u64.wrap ((IntKind.u64.wrap (a0)) * (IntKind.u64.wrap (a1)))) / 4294967296) % 4294967296, (IntKind.u64.wrap ((IntKind.u64.wrap (a0)) * (IntKind.u64.wrap (a1)))) % 4294967296)
set_option maxHeartbeats 8000000 in
set_option maxRecDepth 100000 in
theorem bits_Mul32.calls (a0 : Int) (a1 : Int) (r1 : Int) (r2 : Int) (w : World) (h : bits_Mul32.f a0 a1 = some (r1, r2)) :
    Calls Tryd.prog 96 #[.int .u32 a0, .int .u32 a1] w fun e w' => e = .returned (.tuple #[.int .u32 r1, .int .u32 r2]) ∧ Drawn0 w w' := by
  have H : (some (((IntKind.u64.wrap ((IntKind.u64.wrap (a0)) * (IntKind.u64.wrap (a1)))) / 4294967296) % 4294967296, (IntKind.u64.wrap ((IntKind.u64.wrap (a0)) * (IntKind.u64.wrap (a1)))) % 4294967296)) = some (r1, r2) := h
  clear h
  simp only [Option.some.injEq, Prod.mk.injEq] at H
  obtain ⟨rfl, rfl⟩ := H
  go_enter Tryd.func96, Tryd.ntmps96
  go_wp2
  go_ret2
  exact ⟨by first | rfl | (simp; done) | (simp [*]; done), by repeat (first | exact Drawn0.refl _ | apply Drawn0.step)⟩
def bits_Mul64.f (a0 : Int) (a1 : Int) : Option (Int × Int) := some (IntKind.u64.wrap ((IntKind.u64.wrap ((IntKind.u64.wrap ((a0 / 4294967296) * (a1 / 4294967296))) + ((IntKind.u64.wrap ((IntKind.u64.wrap ((a0 / 4294967296) * (Go.bits .and .u64 a1 4294967295))) + ((IntKind.u64.wrap ((Go.bits .and .u64 a0 4294967295) * (Go.bits .and .u64 a1 4294967295))) / 4294967296))) / 4294967296))) + ((IntKind.u64.wrap ((Go.bits .and .u64 (IntKind.u64.wrap ((IntKind.u64.wrap ((a0 / 4294967296) * (Go.bits .and .u64 a1 4294967295))) + ((IntKind.u64.wrap ((Go.bits .and .u64 a0 4294967295) * (Go.bits .and .u64 a1 4294967295))) / 4294967296))) 4294967295) + (IntKind.u64.wrap ((Go.bits .and .u64 a0 4294967295) * (a1 / 4294967296))))) / 4294967296)), IntKind.u64.wrap (a0 * a1))
set_option maxHeartbeats 8000000 in
set_option maxRecDepth 100000 in
theorem bits_Mul64.calls (a0 : Int) (a1 : Int) (r1 : Int) (r2 : Int) (w : World) (h : bits_Mul64.f a0 a1 = some (r1, r2)) :
    Calls Tryd.prog 97 #[.int .u64 a0, .int .u64 a1] w fun e w' => e = .returned (.tuple #[.int .u64 r1, .int .u64 r2]) ∧ Drawn0 w w' := by
  have H : (some (IntKind.u64.wrap ((IntKind.u64.wrap ((IntKind.u64.wrap ((a0 / 4294967296) * (a1 / 4294967296))) + ((IntKind.u64.wrap ((IntKind.u64.wrap ((a0 / 4294967296) * (Go.bits .and .u64 a1 4294967295))) + ((IntKind.u64.wrap ((Go.bits .and .u64 a0 4294967295) * (Go.bits .and .u64 a1 4294967295))) / 4294967296))) / 4294967296))) + ((IntKind.u64.wrap ((Go.bits .and .u64 (IntKind.u64.wrap ((IntKind.u64.wrap ((a0 / 4294967296) * (Go.bits .and .u64 a1 4294967295))) + ((IntKind.u64.wrap ((Go.bits .and .u64 a0 4294967295) * (Go.bits .and .u64 a1 4294967295))) / 4294967296))) 4294967295) + (IntKind.u64.wrap ((Go.bits .and .u64 a0 4294967295) * (a1 / 4294967296))))) / 4294967296)), IntKind.u64.wrap (a0 * a1))) = some (r1, r2) := h
  clear h
  simp only [Option.some.injEq, Prod.mk.injEq] at H
  obtain ⟨rfl, rfl⟩ := H
  go_enter Tryd.func97, Tryd.ntmps97
  go_wp2
  go_ret2
  exact ⟨by first | rfl | (simp; done) | (simp [*]; done), by repeat (first | exact Drawn0.refl _ | apply Drawn0.step)⟩
def bits_Mul.f (a0 : Int) (a1 : Int) : Option (Int × Int) := (bits_Mul64.f a0 a1).bind fun bt108 => (some (bt108.1, bt108.2))
set_option maxHeartbeats 8000000 in
set_option maxRecDepth 100000 in
theorem bits_Mul.calls (a0 : Int) (a1 : Int) (r1 : Int) (r2 : Int) (w : World) (h : bits_Mul.f a0 a1 = some (r1, r2)) :
    Calls Tryd.prog 91 #[.int .u64 a0, .int .u64 a1] w fun e w' => e = .returned (.tuple #[.int .u64 r1, .int .u64 r2]) ∧ Drawn0 w w' := by
  have H : ((bits_Mul64.f a0 a1).bind fun bt108 => (some (bt108.1, bt108.2))) = some (r1, r2) := h
  clear h
  replace H := Option.bind_eq_some_iff.mp H
  obtain ⟨⟨t108, t109⟩, A30, H⟩ := H
  replace H : (some (t108, t109)) = some (r1, r2) := H
  have A3 := Aside0.mk A30
  clear A30
  simp only [Option.some.injEq, Prod.mk.injEq] at H
  obtain ⟨rfl, rfl⟩ := H
  go_enter Tryd.func91, Tryd.ntmps91
  go_wp2_with (first | ((with_reducible refine gate_callee (f := 97) rfl ?_); refine goesL_ (some 25) rfl rfl Tryd.func97 (by kernel_rfl) rfl #[.int .u64 a0, .int .u64 a1] rfl (by (try simp only [List.map_toArray, List.map_cons, List.map_nil]); first | done | rfl | (simp only [List.length_drop, List.length_take]; rfl)) ?_; (with_reducible refine (bits_Mul64.calls a0 a1 t108 t109 _ A3.out).mono ?_); rintro e w' ⟨rfl, ⟨nd, rfl⟩⟩; refine ⟨_, rfl, ?_⟩))
  go_ret2
  exact ⟨by first | rfl | (simp; done) | (simp [*]; done), by repeat (first | exact Drawn0.refl _ | apply Drawn0.step)⟩
def bits_OnesCount64.f (a0 : Int) : Option (Int) := some (Go.bits .and .i64 (wrap64 (IntKind.u64.wrap ((IntKind.u64.wrap ((IntKind.u64.wrap ((Go.bits .and .u64 (IntKind.u64.wrap (((IntKind.u64.wrap ((Go.bits .and .u64 ((IntKind.u64.wrap ((Go.bits .and .u64 (a0 / 2) 6148914691236517205) + (Go.bits .and .u64 a0 6148914691236517205))) / 4) 3689348814741910323) + (Go.bits .and .u64 (IntKind.u64.wrap ((Go.bits .and .u64 (a0 / 2) 6148914691236517205) + (Go.bits .and .u64 a0 6148914691236517205))) 3689348814741910323))) / 16) + (IntKind.u64.wrap ((Go.bits .and .u64 ((IntKind.u64.wrap ((Go.bits .and .u64 (a0 / 2) 6148914691236517205) + (Go.bits .and .u64 a0 6148914691236517205))) / 4) 3689348814741910323) + (Go.bits .and .u64 (IntKind.u64.wrap ((Go.bits .and .u64 (a0 / 2) 6148914691236517205) + (Go.bits .and .u64 a0 6148914691236517205))) 3689348814741910323))))) 1085102592571150095) + ((Go.bits .and .u64 (IntKind.u64.wrap (((IntKind.u64.wrap ((Go.bits .and .u64 ((IntKind.u64.wrap ((Go.bits .and .u64 (a0 / 2) 6148914691236517205) + (Go.bits .and .u64 a0 6148914691236517205))) / 4) 3689348814741910323) + (Go.bits .and .u64 (IntKind.u64.wrap ((Go.bits .and .u64 (a0 / 2) 6148914691236517205) + (Go.bits .and .u64 a0 6148914691236517205))) 3689348814741910323))) / 16) + (IntKind.u64.wrap ((Go.bits .and .u64 ((IntKind.u64.wrap ((Go.bits .and .u64 (a0 / 2) 6148914691236517205) + (Go.bits .and .u64 a0 6148914691236517205))) / 4) 3689348814741910323) + (Go.bits .and .u64 (IntKind.u64.wrap ((Go.bits .and .u64 (a0 / 2) 6148914691236517205) + (Go.bits .and .u64 a0 6148914691236517205))) 3689348814741910323))))) 1085102592571150095) / 256))) + ((IntKind.u64.wrap ((Go.bits .and .u64 (IntKind.u64.wrap (((IntKind.u64.wrap ((Go.bits .and .u64 ((IntKind.u64.wrap ((Go.bits .and .u64 (a0 / 2) 6148914691236517205) + (Go.bits .and .u64 a0 6148914691236517205))) / 4) 3689348814741910323) + (Go.bits .and .u64 (IntKind.u64.wrap ((Go.bits .and .u64 (a0 / 2) 6148914691236517205) + (Go.bits .and .u64 a0 6148914691236517205))) 3689348814741910323))) / 16) + (IntKind.u64.wrap ((Go.bits .and .u64 ((IntKind.u64.wrap ((Go.bits .and .u64 (a0 / 2) 6148914691236517205) + (Go.bits .and .u64 a0 6148914691236517205))) / 4) 3689348814741910323) + (Go.bits .and .u64 (IntKind.u64.wrap ((Go.bits .and .u64 (a0 / 2) 6148914691236517205) + (Go.bits .and .u64 a0 6148914691236517205))) 3689348814741910323))))) 1085102592571150095) + ((Go.bits .and .u64 (IntKind.u64.wrap (((IntKind.u64.wrap ((Go.bits .and .u64 ((IntKind.u64.wrap ((Go.bits .and .u64 (a0 / 2) 6148914691236517205) + (Go.bits .and .u64 a0 6148914691236517205))) / 4) 3689348814741910323) + (Go.bits .and .u64 (IntKind.u64.wrap ((Go.bits .and .u64 (a0 / 2) 6148914691236517205) + (Go.bits .and .u64 a0 6148914691236517205))) 3689348814741910323))) / 16) + (IntKind.u64.wrap ((Go.bits .and .u64 ((IntKind.u64.wrap ((Go.bits .and .u64 (a0 / 2) 6148914691236517205) + (Go.bits .and .u64 a0 6148914691236517205))) / 4) 3689348814741910323) + (Go.bits .and .u64 (IntKind.u64.wrap ((Go.bits .and .u64 (a0 / 2) 6148914691236517205) + (Go.bits .and .u64 a0 6148914691236517205))) 3689348814741910323))))) 1085102592571150095) / 256))) / 65536))) + ((IntKind.u64.wrap ((IntKind.u64.wrap ((Go.bits .and .u64 (IntKind.u64.wrap (((IntKind.u64.wrap ((Go.bits .and .u64 ((IntKind.u64.wrap ((Go.bits .and .u64 (a0 / 2) 6148914691236517205) + (Go.bits .and .u64 a0 6148914691236517205))) / 4) 3689348814741910323) + (Go.bits .and .u64 (IntKind.u64.wrap ((Go.bits .and .u64 (a0 / 2) 6148914691236517205) + (Go.bits .and .u64 a0 6148914691236517205))) 3689348814741910323))) / 16) + (IntKind.u64.wrap ((Go.bits .and .u64 ((IntKind.u64.wrap ((Go.bits .and .u64 (a0 / 2) 6148914691236517205) + (Go.bits .and .u64 a0 6148914691236517205))) / 4) 3689348814741910323) + (Go.bits .and .u64 (IntKind.u64.wrap ((Go.bits .and .u64 (a0 / 2) 6148914691236517205) + (Go.bits .and .u64 a0 6148914691236517205))) 3689348814741910323))))) 1085102592571150095) + ((Go.bits .and .u64 (IntKind.u64.wrap (((IntKind.u64.wrap ((Go.bits .and .u64 ((IntKind.u64.wrap ((Go.bits .and .u64 (a0 / 2) 6148914691236517205) + (Go.bits .and .u64 a0 6148914691236517205))) / 4) 3689348814741910323) + (Go.bits .and .u64 (IntKind.u64.wrap ((Go.bits .and .u64 (a0 / 2) 6148914691236517205) + (Go.bits .and .u64 a0 6148914691236517205))) 3689348814741910323))) / 16) + (IntKind.u64.wrap ((Go.bits .and .u64 ((IntKind.u64.wrap ((Go.bits .and .u64 (a0 / 2) 6148914691236517205) + (Go.bits .and .u64 a0 6148914691236517205))) / 4) 3689348814741910323) + (Go.bits .and .u64 (IntKind.u64.wrap ((Go.bits .and .u64 (a0 / 2) 6148914691236517205) + (Go.bits .and .u64 a0 6148914691236517205))) 3689348814741910323))))) 1085102592571150095) / 256))) + ((IntKind.u64.wrap ((Go.bits .and .u64 (IntKind.u64.wrap (((IntKind.u64.wrap ((Go.bits .and .u64 ((IntKind.u64.wrap ((Go.bits .and .u64 (a0 / 2) 6148914691236517205) + (Go.bits .and .u64 a0 6148914691236517205))) / 4) 3689348814741910323) + (Go.bits .and .u64 (IntKind.u64.wrap ((Go.bits .and .u64 (a0 / 2) 6148914691236517205) + (Go.bits .and .u64 a0 6148914691236517205))) 3689348814741910323))) / 16) + (IntKind.u64.wrap ((Go.bits .and .u64 ((IntKind.u64.wrap ((Go.bits .and .u64 (a0 / 2) 6148914691236517205) + (Go.bits .and .u64 a0 6148914691236517205))) / 4) 3689348814741910323) + (Go.bits .and .u64 (IntKind.u64.wrap ((Go.bits .and .u64 (a0 / 2) 6148914691236517205) + (Go.bits .and .u64 a0 6148914691236517205))) 3689348814741910323))))) 1085102592571150095) + ((Go.bits .and .u64 (IntKind.u64.wrap (((IntKind.u64.wrap ((Go.bits .and .u64 ((IntKind.u64.wrap ((Go.bits .and .u64 (a0 / 2) 6148914691236517205) + (Go.bits .and .u64 a0 6148914691236517205))) / 4) 3689348814741910323) + (Go.bits .and .u64 (IntKind.u64.wrap ((Go.bits .and .u64 (a0 / 2) 6148914691236517205) + (Go.bits .and .u64 a0 6148914691236517205))) 3689348814741910323))) / 16) + (IntKind.u64.wrap ((Go.bits .and .u64 ((IntKind.u64.wrap ((Go.bits .and .u64 (a0 / 2) 6148914691236517205) + (Go.bits .and .u64 a0 6148914691236517205))) / 4) 3689348814741910323) + (Go.bits .and .u64 (IntKind.u64.wrap ((Go.bits .and .u64 (a0 / 2) 6148914691236517205) + (Go.bits .and .u64 a0 6148914691236517205))) 3689348814741910323))))) 1085102592571150095) / 256))) / 65536))) / 4294967296)))) 127)
set_option maxHeartbeats 8000000 in
set_option maxRecDepth 100000 in
theorem bits_OnesCount64.calls (a0 : Int) (r : Int) (w : World) (h : bits_OnesCount64.f a0 = some r) :
    Calls Tryd.prog 95 #[.int .u64 a0] w fun e w' => e = .returned (.int .i64 r) ∧ Drawn0 w w' := by
  have H : (some (Go.bits .and .i64 (wrap64 (IntKind.u64.wrap ((IntKind.u64.wrap ((IntKind.u64.wrap ((Go.bits .and .u64 (IntKind.u64.wrap (((IntKind.u64.wrap ((Go.bits .and .u64 ((IntKind.u64.wrap ((Go.bits .and .u64 (a0 / 2) 6148914691236517205) + (Go.bits .and .u64 a0 6148914691236517205))) / 4) 3689348814741910323) + (Go.bits .and .u64 (IntKind.u64.wrap ((Go.bits .and .u64 (a0 / 2) 6148914691236517205) + (Go.bits .and .u64 a0 6148914691236517205))) 3689348814741910323))) / 16) + (IntKind.u64.wrap ((Go.bits .and .u64 ((IntKind.u64.wrap ((Go.bits .and .u64 (a0 / 2) 6148914691236517205) + (Go.bits .and .u64 a0 6148914691236517205))) / 4) 3689348814741910323) + (Go.bits .and .u64 (IntKind.u64.wrap ((Go.bits .and .u64 (a0 / 2) 6148914691236517205) + (Go.bits .and .u64 a0 6148914691236517205))) 3689348814741910323))))) 1085102592571150095) + ((Go.bits .and .u64 (IntKind.u64.wrap (((IntKind.u64.wrap ((Go.bits .and .u64 ((IntKind.u64.wrap ((Go.bits .and .u64 (a0 / 2) 6148914691236517205) + (Go.bits .and .u64 a0 6148914691236517205))) / 4) 3689348814741910323) + (Go.bits .and .u64 (IntKind.u64.wrap ((Go.bits .and .u64 (a0 / 2) 6148914691236517205) + (Go.bits .and .u64 a0 6148914691236517205))) 3689348814741910323))) / 16) + (IntKind.u64.wrap ((Go.bits .and .u64 ((IntKind.u64.wrap ((Go.bits .and .u64 (a0 / 2) 6148914691236517205) + (Go.bits .and .u64 a0 6148914691236517205))) / 4) 3689348814741910323) + (Go.bits .and .u64 (IntKind.u64.wrap ((Go.bits .and .u64 (a0 / 2) 6148914691236517205) + (Go.bits .and .u64 a0 6148914691236517205))) 3689348814741910323))))) 1085102592571150095) / 256))) + ((IntKind.u64.wrap ((Go.bits .and .u64 (IntKind.u64.wrap (((IntKind.u64.wrap ((Go.bits .and .u64 ((IntKind.u64.wrap ((Go.bits .and .u64 (a0 / 2) 6148914691236517205) + (Go.bits .and .u64 a0 6148914691236517205))) / 4) 3689348814741910323) + (Go.bits .and .u64 (IntKind.u64.wrap ((Go.bits .and .u64 (a0 / 2) 6148914691236517205) + (Go.bits .and .u64 a0 6148914691236517205))) 3689348814741910323))) / 16) + (IntKind.u64.wrap ((Go.bits .and .u64 ((IntKind.u64.wrap ((Go.bits .and .u64 (a0 / 2) 6148914691236517205) + (Go.bits .and .u64 a0 6148914691236517205))) / 4) 3689348814741910323) + (Go.bits .and .u64 (IntKind.u64.wrap ((Go.bits .and .u64 (a0 / 2) 6148914691236517205) + (Go.bits .and .u64 a0 6148914691236517205))) 3689348814741910323))))) 1085102592571150095) + ((Go.bits .and .u64 (IntKind.u64.wrap (((IntKind.u64.wrap ((Go.bits .and .u64 ((IntKind.u64.wrap ((Go.bits .and .u64 (a0 / 2) 6148914691236517205) + (Go.bits .and .u64 a0 6148914691236517205))) / 4) 3689348814741910323) + (Go.bits .and .u64 (IntKind.u64.wrap ((Go.bits .and .u64 (a0 / 2) 6148914691236517205) + (Go.bits .and .u64 a0 6148914691236517205))) 3689348814741910323))) / 16) + (IntKind.u64.wrap ((Go.bits .and .u64 ((IntKind.u64.wrap ((Go.bits .and .u64 (a0 / 2) 6148914691236517205) + (Go.bits .and .u64 a0 6148914691236517205))) / 4) 3689348814741910323) + (Go.bits .and .u64 (IntKind.u64.wrap ((Go.bits .and .u64 (a0 / 2) 6148914691236517205) + (Go.bits .and .u64 a0 6148914691236517205))) 3689348814741910323))))) 1085102592571150095) / 256))) / 65536))) + ((IntKind.u64.wrap ((IntKind.u64.wrap ((Go.bits .and .u64 (IntKind.u64.wrap (((IntKind.u64.wrap ((Go.bits .and .u64 ((IntKind.u64.wrap ((Go.bits .and .u64 (a0 / 2) 6148914691236517205) + (Go.bits .and .u64 a0 6148914691236517205))) / 4) 3689348814741910323) + (Go.bits .and .u64 (IntKind.u64.wrap ((Go.bits .and .u64 (a0 / 2) 6148914691236517205) + (Go.bits .and .u64 a0 6148914691236517205))) 3689348814741910323))) / 16) + (IntKind.u64.wrap ((Go.bits .and .u64 ((IntKind.u64.wrap ((Go.bits .and .u64 (a0 / 2) 6148914691236517205) + (Go.bits .and .u64 a0 6148914691236517205))) / 4) 3689348814741910323) + (Go.bits .and .u64 (IntKind.u64.wrap ((Go.bits .and .u64 (a0 / 2) 6148914691236517205) + (Go.bits .and .u64 a0 6148914691236517205))) 3689348814741910323))))) 1085102592571150095) + ((Go.bits .and .u64 (IntKind.u64.wrap (((IntKind.u64.wrap ((Go.bits .and .u64 ((IntKind.u64.wrap ((Go.bits .and .u64 (a0 / 2) 6148914691236517205) + (Go.bits .and .u64 a0 6148914691236517205))) / 4) 3689348814741910323) + (Go.bits .and .u64 (IntKind.u64.wrap ((Go.bits .and .u64 (a0 / 2) 6148914691236517205) + (Go.bits .and .u64 a0 6148914691236517205))) 3689348814741910323))) / 16) + (IntKind.u64.wrap ((Go.bits .and .u64 ((IntKind.u64.wrap ((Go.bits .and .u64 (a0 / 2) 6148914691236517205) + (Go.bits .and .u64 a0 6148914691236517205))) / 4) 3689348814741910323) + (Go.bits .and .u64 (IntKind.u64.wrap ((Go.bits .and .u64 (a0 / 2) 6148914691236517205) + (Go.bits .and .u64 a0 6148914691236517205))) 3689348814741910323))))) 1085102592571150095) / 256))) + ((IntKind.u64.wrap ((Go.bits .and .u64 (IntKind.u64.wrap (((IntKind.u64.wrap ((Go.bits .and .u64 ((IntKind.u64.wrap ((Go.bits .and .u64 (a0 / 2) 6148914691236517205) + (Go.bits .and .u64 a0 6148914691236517205))) / 4) 3689348814741910323) + (Go.bits .and .u64 (IntKind.u64.wrap ((Go.bits .and .u64 (a0 / 2) 6148914691236517205) + (Go.bits .and .u64 a0 6148914691236517205))) 3689348814741910323))) / 16) + (IntKind.u64.wrap ((Go.bits .and .u64 ((IntKind.u64.wrap ((Go.bits .and .u64 (a0 / 2) 6148914691236517205) + (Go.bits .and .u64 a0 6148914691236517205))) / 4) 3689348814741910323) + (Go.bits .and .u64 (IntKind.u64.wrap ((Go.bits .and .u64 (a0 / 2) 6148914691236517205) + (Go.bits .and .u64 a0 6148914691236517205))) 3689348814741910323))))) 1085102592571150095) + ((Go.bits .and .u64 (IntKind.u64.wrap (((IntKind.u64.wrap ((Go.bits .and .u64 ((IntKind.u64.wrap ((Go.bits .and .u64 (a0 / 2) 6148914691236517205) + (Go.bits .and .u64 a0 6148914691236517205))) / 4) 3689348814741910323) + (Go.bits .and .u64 (IntKind.u64.wrap ((Go.bits .and .u64 (a0 / 2) 6148914691236517205) + (Go.bits .and .u64 a0 6148914691236517205))) 3689348814741910323))) / 16) + (IntKind.u64.wrap ((Go.bits .and .u64 ((IntKind.u64.wrap ((Go.bits .and .u64 (a0 / 2) 6148914691236517205) + (Go.bits .and .u64 a0 6148914691236517205))) / 4) 3689348814741910323) + (Go.bits .and .u64 (IntKind.u64.wrap ((Go.bits .and .u64 (a0 / 2) 6148914691236517205) + (Go.bits .and .u64 a0 6148914691236517205))) 3689348814741910323))))) 1085102592571150095) / 256))) / 65536))) / 4294967296)))) 127)) = some r := h
  clear h
  obtain rfl := Option.some.inj H
  go_enter Tryd.func95, Tryd.ntmps95
  go_wp2
  go_ret
  exact ⟨by first | rfl | (simp; done) | (simp [*]; done), by repeat (first | exact Drawn0.refl _ | apply Drawn0.step)⟩
def bits_OnesCount.f (a0 : Int) : Option (Int) := (bits_OnesCount64.f a0).bind fun t110 => (some t110)
set_option maxHeartbeats 8000000 in
set_option maxRecDepth 100000 in
theorem bits_OnesCount.calls (a0 : Int) (r : Int) (w : World) (h : bits_OnesCount.f a0 = some r) :
    Calls Tryd.prog 90 #[.int .u64 a0] w fun e w' => e = .returned (.int .i64 r) ∧ Drawn0 w w' := by
  have H : ((bits_OnesCount64.f a0).bind fun t110 => (some t110)) = some r := h
  clear h
  replace H := Option.bind_eq_some_iff.mp H
  obtain ⟨t110, A20, H⟩ := H
  replace H : (some t110) = some r := H
  have A2 := Aside0.mk A20
  clear A20
  obtain rfl := Option.some.inj H
  go_enter Tryd.func90, Tryd.ntmps90
  go_wp2_with (first | ((with_reducible refine gate_callee (f := 95) rfl ?_); refine goesL_ (some 7) rfl rfl Tryd.func95 (by kernel_rfl) rfl #[.int .u64 a0] rfl (by (try simp only [List.map_toArray, List.map_cons, List.map_nil]); first | done | rfl | (simp only [List.length_drop, List.length_take]; rfl)) ?_; (with_reducible refine (bits_OnesCount64.calls a0 t110 _ A2.out).mono ?_); rintro e w' ⟨rfl, ⟨nd, rfl⟩⟩; refine ⟨_, rfl, ?_⟩))
  go_ret
  exact ⟨by first | rfl | (simp; done) | (simp [*]; done), by repeat (first | exact Drawn0.refl _ | apply Drawn0.step)⟩
def wetting_places_size.f (a0 : Int) : Option (Int) := (bits_OnesCount.f a0).bind fun t111 => (some t111)
set_option maxHeartbeats 8000000 in
set_option maxRecDepth 100000 in
theorem wetting_places_size.calls (a0 : Int) (r : Int) (w : World) (h : wetting_places_size.f a0 = some r) :
    Calls Tryd.prog 80 #[.int .u64 a0] w fun e w' => e = .returned (.int .i64 r) ∧ Drawn0 w w' := by
  have H : ((bits_OnesCount.f a0).bind fun t111 => (some t111)) = some r := h
  clear h
  replace H := Option.bind_eq_some_iff.mp H
  obtain ⟨t111, A20, H⟩ := H
  replace H : (some t111) = some r := H
  have A2 := Aside0.mk A20
  clear A20
  obtain rfl := Option.some.inj H
  go_enter Tryd.func80, Tryd.ntmps80
  go_wp2_with (first | ((with_reducible refine gate_callee (f := 90) rfl ?_); refine goesL_ (some 4) rfl rfl Tryd.func90 (by kernel_rfl) rfl #[.int .u64 a0] rfl (by (try simp only [List.map_toArray, List.map_cons, List.map_nil]); first | done | rfl | (simp only [List.length_drop, List.length_take]; rfl)) ?_; (with_reducible refine (bits_OnesCount.calls a0 t111 _ A2.out).mono ?_); rintro e w' ⟨rfl, ⟨nd, rfl⟩⟩; refine ⟨_, rfl, ?_⟩))
  go_ret
  exact ⟨by first | rfl | (simp; done) | (simp [*]; done), by repeat (first | exact Drawn0.refl _ | apply Drawn0.step)⟩
end Go.Proofs.YtpbeaaihdmfnlaaDoor.G

/- ### Wg -/
namespace Go.Proofs.YtpbeaaihdmfnlaaDoor.H
attribute [local go_sem] Oper.semAt_some wide_fn
open Go Go.RowKit Go.Shelf Go.Proofs.YtpbeaaihdmfnlaaDoor.M
open Go.Proofs.YtpbeaaihdmfnlaaDoor.G
theorem mul_one_small : ∀ n : Nat, n ≤ 12 → bits_Mul.f 1 (n : Int) = some (0, (n : Int)) := by
  intro n hn
  have : ∀ n : Nat, n < 13 → bits_Mul.f 1 (n : Int) = some (0, (n : Int)) := by decide +kernel
  exact this n (by omega)
theorem one_src {W : World} {b : Nat} {x : Value} (h : W.cell? ⟨b, 0, none⟩ = some x) : ∀ j v, [x][j]? = some v → W.cell? ((⟨b, 0, none⟩ : Addr).add j) = some v := by
  intro j v hj
  match j, hj with
  | 0, hj => simp at hj; subst hj; simpa [Addr.add] using h
/-- k cells are filled, the rest is zero. -/
def halves (n k : Nat) : List Value := List.replicate k (.int .i64 (-1)) ++ List.replicate (n - k) (.int .i64 0)
theorem halves_src {n k : Nat} {W : World} {B : Nat} (h : W.heap[B]? = some (.cells (halves n k).toArray 3)) (m : Nat) (hm : m ≤ k) : ∀ j v, (List.replicate m (Value.int .i64 (-1)))[j]? = some v → W.cell? ((⟨B, 0, none⟩ : Addr).add j) = some v := by
  intro j v hj
  rw [List.getElem?_replicate] at hj
  by_cases hjm : j < m
  · rw [if_pos hjm] at hj
    cases hj
    have : ((⟨B, 0, none⟩ : Addr).add j) = ⟨B, j, none⟩ := by unfold Addr.add; split <;> simp_all
    rw [this]
    have e : (halves n k).toArray[j]? = some (.int .i64 (-1)) := by
      simp [halves, List.getElem?_append, show j < k by omega]
    unfold World.cell?
    rw [h]
    exact e
  · rw [if_neg hjm] at hj; cases hj
theorem halves_step {n k : Nat} (m : Nat) (_hm : m ≤ n - k) : splice (halves n k) k (List.replicate m (Value.int .i64 (-1))) = halves n (k + m) := by
  simp only [splice, halves]
  rw [List.take_left' (by simp), List.length_replicate, List.drop_append, List.drop_of_length_le (by simp), List.length_replicate, List.drop_replicate, List.nil_append, ← List.append_assoc, List.replicate_append_replicate]
  congr 2
  omega
theorem made_row {W : World} {N B n : Nat} (h : W.ownsRow N 3 1 (.slice (some ⟨B, 0, none⟩) n n) n (madeCells (Value.cells (.int .i64 0)) (n * 1)).toList) : W.heap[B]? = some (.cells (List.replicate n (Value.int .i64 0)).toArray 3) := by
  rcases h.2 with ⟨h2, _⟩ | ⟨g, cap, cur, he, _, hh, _, _, hs, ht⟩
  · cases h2
  · simp only [Value.slice.injEq, Option.some.injEq, Addr.mk.injEq] at he
    obtain ⟨⟨rfl, -, -⟩, -, rfl⟩ := he
    rw [hh]
    congr 2
    rw [List.take_of_length_le (by simp [hs])] at ht
    have : cur = (madeCells (Value.cells (.int .i64 0)) (n * 1)) := by
      apply Array.ext'; exact ht
    rw [this]
    apply Array.ext'
    simpa [Value.cells] using toList_madeCells_one (.int .i64 0) n
set_option maxHeartbeats 2000000 in
set_option maxRecDepth 100000 in
theorem repeat_any (n : Nat) (h1 : 1 ≤ n) (h12 : n ≤ 12) (b : Nat) (w : World) (hx : w.cell? ⟨b, 0, none⟩ = some (.int .i64 (-1))) (hb : b < w.heap.size) :
    Calls Tryd.prog 84 #[.slice (some ⟨b, 0, none⟩) 1 1, .int .i64 n] w fun e w' => e = .returned (.slice (some ⟨w.heap.size, 0, none⟩) n n) ∧
      w'.heap[w.heap.size]? = some (.cells (List.replicate n (Value.int .i64 (-1))).toArray 3) ∧ Below w.heap.size w w' := by
  have HM := Lib.hid (mul_one_small n h12)
  have hn0 : (0 : Int) ≤ (n : Int) := by omega
  have hn1 : (n : Int) ≤ 12 := by omega
  have hn2 : (1 : Int) ≤ (n : Int) := by omega
  obtain ⟨i0, hi, hz0, hz1, hz2⟩ := info_parts info3
  go_enter Tryd.func84, Tryd.ntmps84
  go_wp2_with (first | (refine (bits_Mul.calls 1 n 0 n _ HM.out).mono ?_; rintro e w1 ⟨rfl, ⟨⟨nq, rfl⟩⟩⟩) | (at_make; refine wpList_make_full _ rfl _ _ 24 rfl w.heap.size 3 i0 (.int .i64 0) 1 Tryd.underlying24 hi hz0 hz1 .i64 .i64 _ _ n rfl rfl rfl rfl (by rw [hz2]; omega) (by unfold maxLen; omega) (by simp) ?_; intro w2 hown hgr; have HG := Lib.hid (made_row hown); have hb2 : Below w.heap.size w w2 := ⟨hgr.os, hgr.tape, hgr.output, hgr.size, fun k hk => hgr.block k hk (by simp)⟩; have hs := (cell_of_heap (hb2.block b hb) ⟨b, 0, none⟩ rfl).trans hx; have HS := Lib.hid hs; have HB2 := Lib.hid hb2; clear hown hgr hb2 hs) | (refine wpList_copy_splice rfl _ _ 24 24 rfl 3 Tryd.underlying24 (by rw [hi]; simp [hz1]) _ _ _ _ _ _ rfl rfl w.heap.size 0 (List.replicate n (.int .i64 0)) 3 HG.out [.int .i64 (-1)] (by simp only [List.length_singleton]; exact (Nat.min_eq_left h1).symm) (fun _ => ⟨rfl, _, rfl, one_src HS.out⟩) (by simp; omega) (by simp [Value.oneCell']) w.heap.size w HB2.out (Nat.le_refl _) ?_; intro w3 hg3 hb3))
  have hp0 : splice (List.replicate n (Value.int .i64 0)) 0 [Value.int .i64 (-1)] = halves n 1 := by
    obtain ⟨m, rfl⟩ : ∃ m, n = m + 1 := ⟨n - 1, by omega⟩
    simp [splice, halves, List.replicate_succ]
  rw [hp0] at hg3
  go_loopg [8] n (fun g s8 W => ∃ k : Nat, s8 = .int .i64 k ∧ 1 ≤ k ∧ k ≤ n ∧ n - k ≤ g ∧ W.heap[w.heap.size]? = some (.cells (halves n k).toArray 3) ∧ Below w.heap.size w W)
  case atStart => exact ⟨1, rfl, by omega, h1, by omega, hg3, hb3⟩
  case round =>
    obtain ⟨k, rfl, hk0, hk, hgk, hW, hbW⟩ := hrel
    have HW := Lib.hid hW
    have HBW := Lib.hid hbW
    clear hW hbW hg3 hb3
    by_cases hlt : k < n
    · have hz0' : (0 : Int) ≤ (k : Int) := by omega
      have hz1' : (k : Int) ≤ (n : Int) := by omega
      have hz2' : (k : Int) < (n : Int) := by omega
      obtain ⟨m, hm⟩ : ∃ m, m = Nat.min k (n - k) := ⟨_, rfl⟩
      have hm1 : m ≤ k := by rw [hm]; exact Nat.min_le_left _ _
      have hm2 : m ≤ n - k := by rw [hm]; exact Nat.min_le_right _ _
      have hm3 : 1 ≤ m := by rw [hm]; exact Nat.le_min.2 ⟨hk0, by omega⟩
      have HM2 := Lib.hid hm
      have HS1 := Lib.hid (halves_src HW.out m hm1)
      have HS2 := Lib.hid (halves_step m hm2)
      have hnk : ¬ n = k := by omega
      have hfit : k + (List.replicate m (Value.int .i64 (-1))).length ≤ (halves n k).length := by simp [halves]; omega
      have HF := Lib.hid hfit
      have ho1 : ∀ v ∈ List.replicate m (Value.int .i64 (-1)), v.oneCell' = true := by intro v hv; rw [List.mem_replicate] at hv; rw [hv.2]; rfl
      clear hm hfit
      go_wp2_with fail
      go_region_law (refine step_copy_splice rfl (.tmp 41) (.tmp 44) 24 24 rfl 3 Tryd.underlying24 (by rw [hi]; simp [hz1]) (some ⟨w.heap.size, k, none⟩) (some ⟨w.heap.size, 0, none⟩) (n - k) (n - k) k n (by simp [Act.eval, Act.put]) (by simp [Act.eval, Act.put]) w.heap.size k (halves n k) 3 HW.out (List.replicate m (.int .i64 (-1))) (by rw [List.length_replicate]; exact HM2.out) (fun _ => ⟨rfl, _, rfl, HS1.out⟩) HF.out ho1 w.heap.size w (by first | exact HBW.out | exact HBW.out.drew) (Nat.le_refl _) ?_; intro w4 hg4 hb4)
      all_goals (go_wp2; go_roundg (n - (k + m)))
      all_goals first
        | omega
        | exact ⟨k + m, by rw [show ((k : Int) + (m : Int)) = ((k + m : Nat) : Int) by simp, M.wraps_i64 _ (by omega) (by omega)], by omega, by omega, by omega, by rw [← HS2.out]; exact hg4, hb4⟩
    · have : k = n := by omega
      subst this
      go_wp2
      go_ret
      refine ⟨rfl, ?_, HBW.out⟩
      have := HW.out
      simpa [halves] using this
/-- The greatest of a list that is not empty. -/
def maxL : List Int → Int
  | [] => 0
  | x :: l => l.foldl max x
def intsV (l : List Int) : List Value := l.map (.int .i64 ·)
theorem maxL_take (l : List Int) (k : Nat) (h0 : 0 < k) (hk : k < l.length) : maxL (l.take (k + 1)) = max (maxL (l.take k)) (l.getD k 0) := by
  cases l with
  | nil => simp at hk
  | cons x l =>
    obtain ⟨k, rfl⟩ : ∃ j, k = j + 1 := ⟨k - 1, by omega⟩
    simp only [List.length_cons] at hk
    simp only [List.take_succ_cons, maxL]
    rw [List.take_succ_eq_append_getElem (by omega), List.foldl_append]
    simp [List.getD_eq_getElem?_getD, List.getElem?_eq_getElem (show k < l.length by omega)]
set_option maxHeartbeats 2000000 in
theorem max_any (l : List Int) (hl : l ≠ []) (hn : l.length ≤ 9223372036854775807) (b c : Nat) (w : World) (hc : ∀ j, j < l.length → w.cell? ⟨b, j, none⟩ = some (.int .i64 (l.getD j 0))) :
    Calls Tryd.prog 66 #[.slice (some ⟨b, 0, none⟩) l.length c] w fun e w' => e = .returned (.int .i64 (maxL l)) ∧ w' = w := by
  have hp : 0 < l.length := List.length_pos_iff.2 hl
  have h0 : w.cell? ⟨b, 0, none⟩ = some (.int .i64 (l.getD 0 0)) := hc 0 hp
  have h0' : (1 : Int) ≤ (l.length : Int) := by omega
  go_enter Tryd.func66, Tryd.ntmps66
  go_wp2
  go_loopg [3, 4] l.length (fun g m i wr => ∃ k : Nat, 0 < k ∧ k ≤ l.length ∧ l.length - k ≤ g ∧ i = .int .i64 k ∧ m = .int .i64 (maxL (l.take k)) ∧ wr = w)
  case atStart => exact ⟨1, Nat.one_pos, hp, by omega, rfl, by obtain ⟨x, l', rfl⟩ := List.exists_cons_of_ne_nil hl; simp [maxL], rfl⟩
  case round =>
    obtain ⟨k, hk0, hk, hg, rfl, rfl, rfl⟩ := hrel
    by_cases hlt : k < l.length
    · have ck := hc k hlt
      have S := maxL_take l k hk0 hlt
      generalize l.getD k 0 = x at ck S
      generalize maxL (l.take k) = m at S ⊢
      have S := Lib.hid S
      clear hc h0
      go_wp2
      all_goals go_roundg (l.length - (k + 1))
      all_goals first
        | omega
        | exact ⟨k + 1, Nat.succ_pos k, by omega, Nat.le_refl _, by go_num, by rw [S.out]; congr 1; omega, rfl⟩
    · have : k = l.length := by omega
      subst this
      clear hc h0
      go_wp2
      go_ret
      exact ⟨by simp, rfl⟩
end Go.Proofs.YtpbeaaihdmfnlaaDoor.H

/- ### Wh -/
namespace Go.Proofs.YtpbeaaihdmfnlaaDoor.H
open Go Go.RowKit Go.Shelf Go.Proofs.YtpbeaaihdmfnlaaDoor.M
attribute [local go_sem] Oper.semAt_some wide_fn
attribute [local go_sem ↓ high] loadAt81
attribute [local go_sem] rowOk_drew cellsAt_drew run_loadRow
/-- The round of each place, as the cells of a row. -/
def roundsA (n : Nat) (ρ : Nat → Int) : Array Value := ((List.range n).map fun v => Value.int .i64 (ρ v)).toArray
def markR (ρ : Nat → Int) (k : Int) (pre : List Nat) : Nat → Int := fun v => if v ∈ pre then k else ρ v
/-- Rounds of a rule: what is wet in the end, and the round of each place. -/
def closeM (f : Nat → Nat) : Nat → Nat → Nat → (Nat → Int) → Nat × (Nat → Int)
  | 0, s, _, ρ => (s, ρ)
  | fuel + 1, s, k, ρ => if f s = 0 then (s, ρ) else closeM f fuel (s ||| f s) (k + 1) (markR ρ k (bitsOf (f s)))
theorem roundsA_const (n : Nat) (x : Int) : (List.replicate n (Value.int .i64 x)).toArray = roundsA n (fun _ => x) := by
  unfold roundsA; congr 1; apply List.ext_getElem <;> simp
theorem markR_nil (ρ : Nat → Int) (k : Int) : markR ρ k [] = ρ := by funext v; simp [markR]
theorem roundsA_cell {W : World} {R n : Nat} {ρ : Nat → Int} (h : W.heap[R]? = some (.cells (roundsA n ρ) 3)) (x : Nat) (hx : x < n) : W.cell? ⟨R, x, none⟩ = some (.int .i64 (ρ x)) := by
  have e : (roundsA n ρ)[x]? = some (.int .i64 (ρ x)) := by simp [roundsA, hx]
  unfold World.cell?; rw [h]; exact e
theorem roundsA_store {W : World} {R n : Nat} {ρ : Nat → Int} (h : W.heap[R]? = some (.cells (roundsA n ρ) 3)) (k : Int) (x : Nat) :
    (W.setCell ⟨R, x, none⟩ (.int .i64 k)).heap[R]? = some (.cells (roundsA n (fun v => if v = x then k else ρ v)) 3) := by
  obtain ⟨hlt, e⟩ := Array.getElem?_eq_some_iff.1 h
  show (W.heap.modify R _)[R]? = _
  rw [Array.getElem?_eq_getElem (by rw [Array.size_modify]; exact hlt), Array.getElem_modify_self, e]
  have e2 : (roundsA n ρ).setIfInBounds x (.int .i64 k) = roundsA n (fun v => if v = x then k else ρ v) := by
    apply Array.ext
    · simp [roundsA]
    · intro i h1 h2
      simp only [roundsA, List.setIfInBounds_toArray, List.getElem_toArray, List.getElem_set, List.getElem_map, List.getElem_range]
      by_cases hi : x = i
      · subst hi; simp
      · rw [if_neg hi, if_neg (fun e => hi e.symm)]
  exact congrArg (fun c => some (Obj.cells c 3 (0, 0))) e2
theorem mark_snoc (ρ : Nat → Int) (k : Int) (pre : List Nat) (x : Nat) : (fun v => if v = x then k else markR ρ k pre v) = markR ρ k (pre ++ [x]) := by
  funext v; simp only [markR, List.mem_append, List.mem_singleton]; by_cases h1 : v = x <;> by_cases h2 : v ∈ pre <;> simp [h1, h2]
theorem Boxes.grow {l : List (Nat × Obj)} {w W W' : World} (h : Boxes l w W) (k : Below W.heap.size W W') (h1 : 1 < w.heap.size) : Boxes l w W' where
  box := fun p hp => (k.block p.1 (Array.getElem?_eq_some_iff.1 (h.box p hp)).1).trans (h.box p hp)
  tab := tab_below k (by have := h.below.size; omega) h.tab
  below := h.below.trans (k.mono h.below.size)
theorem forced_disj (near : Nat → Nat) (s i : Nat) (h : (forcedM near s).testBit i = true) : s.testBit i = false := by
  suffices H : ∀ (l : List Nat) (a : Nat), (a.testBit i = true → s.testBit i = false) → (l.foldl (forcedStep near s) a).testBit i = true → s.testBit i = false from H (bitsOf s) 0 (by simp) h
  intro l
  induction l with
  | nil => exact fun a ha h => ha h
  | cons v l ih =>
    intro a ha h
    simp only [List.foldl_cons] at h
    refine ih _ (fun h2 => ?_) h
    unfold forcedStep at h2
    split at h2
    · rw [Nat.testBit_or, testBit_andNot] at h2
      cases h3 : a.testBit i with
      | true => exact ha h3
      | false => rw [h3] at h2; simp at h2; exact h2.2
    · exact ha h2
theorem soaked_disj (n : Nat) (near : Nat → Nat) (r : Int) (s i : Nat) (h : (soakedM n near r s).testBit i = true) : s.testBit i = false := by
  suffices H : ∀ (l : List Nat) (a : Nat), (∀ v ∈ l, s.testBit v = false) → (a.testBit i = true → s.testBit i = false) → (l.foldl (soakedStep near r s) a).testBit i = true → s.testBit i = false from H _ 0 (fun v hv => by have := (mem_bitsOf.1 hv).2; rw [testBit_andNot] at this; simpa using (Bool.and_eq_true_iff.1 this).2) (by simp) h
  intro l
  induction l with
  | nil => exact fun a _ ha h => ha h
  | cons v l ih =>
    intro a hl ha h
    simp only [List.foldl_cons] at h
    refine ih _ (fun v hv => hl v (List.mem_cons_of_mem _ hv)) (fun h2 => ?_) h
    unfold soakedStep at h2
    split at h2
    · rw [Nat.testBit_or, Nat.testBit_two_pow] at h2
      cases h3 : a.testBit i with
      | true => exact ha h3
      | false =>
        rw [h3] at h2
        simp at h2
        rw [← h2]; exact hl v List.mem_cons_self
    · exact ha h2
theorem soakedM_lt (n : Nat) (near : Nat → Nat) (r : Int) (s : Nat) : soakedM n near r s < 2 ^ n := by
  unfold soakedM
  refine soakedL_lt _ (fun v hv => ?_)
  have := (mem_bitsOf.1 hv).2
  rw [testBit_andNot, testBit_full] at this
  simpa using (Bool.and_eq_true_iff.1 this).1
theorem or_gt' {s F : Nat} (h0 : F ≠ 0) (hF : F < 2 ^ 64) (h : ∀ i, F.testBit i = true → s.testBit i = false) : s < s ||| F := by
  rcases Nat.lt_or_eq_of_le (Nat.left_le_or (n := s) (m := F)) with h1 | h1
  · exact h1
  · exfalso
    have hne : bitsOf F ≠ [] := fun e => h0 ((bitsOf_eq_nil hF).1 e)
    obtain ⟨i, hi⟩ := List.exists_mem_of_ne_nil _ hne
    have hb := (mem_bitsOf.1 hi).2
    have h2 : (s ||| F).testBit i = true := by rw [Nat.testBit_or, hb, Bool.or_true]
    rw [← h1, h i hb] at h2
    cases h2
section
variable {F : Fence} {n : Nat} {P : Program}
theorem quiet_plain {id : Nat} {Q : Exit → Act → World → Prop} {a : Act} {w : World} {l : List Oper} (hro : F.round = none) (hm : P.follows .mixedOrders = true) (hB : Region.lexB .any l.toArray = true)
    (h : wpQuietIn F n P l.toArray (fun w' => ∃ n, w' = w.drewN n) (fun a' => ∀ w', (∃ n, w' = w.drewN n) → Q .normal a' w') l a) : (Code.region id l.toArray true).wpIn F n P Q a w := by
  obtain ⟨b1, b2⟩ : Region.noSelect l.toArray = true ∧ Region.lexFrom .any l.toArray l.toArray.size 0 (Array.replicate l.toArray.size false) = true := by
    simpa [Region.lexB] using hB
  refine wpIn_region_any hm (wpAnyIn_of_quiet (C := fun w' => ∃ n, w' = w.drewN n) (Q := fun a' => ∀ w', (∃ n, w' = w.drewN n) → Q .normal a' w') hro (fun _ w' hw' h => h w' hw') _ _ _ _ ⟨1, rfl⟩ ?_)
  have z := wpAnyQIn_lex (F := F) (n := n) (C := fun w' => ∃ n, w' = w.drewN n) (md := .any) b1 l 0 (Array.replicate l.toArray.size false) a (by simp) (by simpa using b2) h
  simpa using z
end
/-- The blocks for the rounds' deferred calls are taken one after the other. -/
theorem leaves_all {F : Fence} {n : Nat} {fn : Func} {tmps : Array Value} {R : Ending → World → Prop} : ∀ (Ds : List Nat) (W : World), Ds.Nodup → (∀ D ∈ Ds, W.heap[D]? = some (.deferred (some []))) →
    (∀ W', (∀ k, k ∉ Ds → W'.heap[k]? = W.heap[k]?) → W'.heap.size = W.heap.size → (∀ B, (∀ D ∈ Ds, B ≤ D) → Below B W W') → ∃ v, (results fn tmps).run Tryd.prog W' = .ok v W' ∧ R (.returned v) W') →
    LeavesInM F n Tryd.prog fn tmps R (Ds.map fun D => { target := .collected D, args := #[] }) .returning W
  | [], W, _, _, h => h W (fun _ _ => rfl) rfl (fun _ _ => Below.refl _ _)
  | D :: Ds, W, hn, hD, h => by
    obtain ⟨hn1, hn2⟩ := List.nodup_cons.1 hn
    refine ⟨by simp, .inl ⟨_, _, rfl, run_takeDeferred (hD D List.mem_cons_self), ?_⟩⟩
    refine leaves_all Ds _ hn2 (fun D' h' => ?_) (fun W' k1 k2 k3 => ?_)
    · rw [World.putObj_heap_other (by rintro rfl; exact hn1 h')]; exact hD D' (List.mem_cons_of_mem _ h')
    · refine h W' (fun k hk => ?_) (by rw [k2]; simp) (fun B hB => ?_)
      · rw [k1 k (fun h' => hk (List.mem_cons_of_mem _ h'))]
        exact World.putObj_heap_other (by rintro rfl; exact hk List.mem_cons_self)
      · exact (below_take (Below.refl B W) (hB D List.mem_cons_self) _).trans (k3 B (fun D' h' => hB D' (List.mem_cons_of_mem _ h')))
set_option maxHeartbeats 4000000 in
set_option maxRecDepth 100000 in
theorem closeF_any (g : Gr) (hg : g.Ok) (s : Nat) (hs : s < 2 ^ g.n) (w : World) (ht : Tab w) :
    Calls Tryd.prog 65 #[.agg g.cells, .int .u64 s, .func (.func 59) #[] #[]] w fun e w' => ∃ R, e = .returned (.tuple #[.int .u64 ((closeM (forcedM g.near) (2 ^ g.n) s 1 (markR (fun _ => -1) 0 (bitsOf s))).1 : Nat), .slice (some ⟨R, 0, none⟩) g.n g.n]) ∧ w.heap.size ≤ R ∧
      w'.heap[R]? = some (.cells (roundsA g.n (closeM (forcedM g.near) (2 ^ g.n) s 1 (markR (fun _ => -1) 0 (bitsOf s))).2) 3) ∧ Below w.heap.size w w' := by
  have hs' : s < 4096 := Nat.lt_of_lt_of_le hs (Nat.pow_le_pow_right (by decide) hg.le)
  have h1w : 1 < w.heap.size := (ht 0 (by decide)).2
  refine (callsIn_wide (n := 9)).1 ?_
  refine callsIn_of_wp_marks Tryd.func65 rfl trivial ?_ rfl
  simp only [Tryd.ntmps65, List.size_toArray, List.length_cons, List.length_nil, Nat.reduceAdd, Nat.reduceSub, Array.replicate_succ, Array.replicate_zero, List.push_toArray, List.append_toArray, List.nil_append, List.cons_append]
  have hpos := hg.pos
  have hle := hg.le
  have hp12 : 2 ^ g.n ≤ 4096 := Nat.pow_le_pow_right (by decide) hle
  have HG := Lib.hid hg
  have HS := Lib.hid hs
  have HT := Lib.hid ht
  
  clear hg hs ht
  have hg0 : g.cells[0]? = some (.int .i64 (g.n : Int)) := rfl
  gi_wp2_with fail
  refine (callsIn_wide.2 (repeat_any g.n hpos hle (w.heap.size + 1) _ (by simp) (by simp))).mono ?_
  rintro e w1 ⟨rfl, hR, hb1⟩
  obtain ⟨f0, f1, f2, f3⟩ := lay2 w (.cells g.cells 81) (.cells #[.int .i64 (-1)] 3)
  generalize ((w.alloc (Obj.cells g.cells 81)).alloc (Obj.cells #[Value.int IntKind.i64 (-1)] 3)) = W0 at f0 f1 f2 f3 hR hb1 ⊢
  rw [f2] at hb1 hR
  simp only [f2]
  have hR1 := (Array.getElem?_eq_some_iff.1 hR).1
  have g0 := (hb1.block w.heap.size (by omega)).trans f0
  have bw1 := f3.trans (hb1.mono (B' := w.heap.size) (by omega))
  rw [roundsA_const] at hR
  have HR := Lib.hid hR
  have HG0 := Lib.hid g0
  have HB1 := Lib.hid bw1
  clear f0 f1 f2 f3 hb1 hR g0 bw1 W0
  gi_wp2_with fail
  refine (callsIn_wide.2 (each_any s _)).mono ?_
  rintro e w' ⟨rfl, rfl⟩
  gi_wp2_with fail
  obtain ⟨n0, n1, n2, n3⟩ := lay2 w1 (.cells #[.slice (some ⟨w.heap.size + 1 + 1, 0, none⟩) g.n g.n] 24) (.cells #[.int .u64 ((s : Nat) : Int)] 78)
  generalize hb : w1.heap.size = b at n0 n1 n2 n3 hR1
  have k0 := (n3.block w.heap.size (by omega)).trans HG0.out
  have k1 := (n3.block (w.heap.size + 1 + 1) (by omega)).trans HR.out
  have bW := HB1.out.trans (n3.mono (B' := w.heap.size) (by omega))
  clear HG0 HR HB1 n3
  generalize ((w1.alloc (Obj.cells #[Value.slice (some { block := w.heap.size + 1 + 1, off := 0 }) g.n g.n] 24)).alloc (Obj.cells #[Value.int IntKind.u64 ↑s] 78)) = W1 at n0 n1 n2 k0 k1 bW ⊢
  obtain ⟨L, hL⟩ : ∃ L : (Nat → Int) → List (Nat × Obj), L = fun ρ => [(w.heap.size, .cells g.cells 81), (w.heap.size + 1 + 1, .cells (roundsA g.n ρ) 3), (b, .cells #[.slice (some ⟨w.heap.size + 1 + 1, 0, none⟩) g.n g.n] 24)] := ⟨_, rfl⟩
  have BX : ∀ {ρ W} {X : List (Nat × Obj)}, Boxes (L ρ ++ X) w W → W.heap[w.heap.size]? = some (.cells g.cells 81) ∧ W.heap[w.heap.size + 1 + 1]? = some (.cells (roundsA g.n ρ) 3) ∧ W.heap[b]? = some (.cells #[.slice (some ⟨w.heap.size + 1 + 1, 0, none⟩) g.n g.n] 24) := by
    intro ρ W X h
    rw [hL] at h
    exact ⟨h.box (_, _) (by simp), h.box (_, _) (by simp), h.box (_, _) (by simp)⟩
  have LL : ∀ {ρ} {p : Nat × Obj}, p ∈ L ρ → p.1 ≤ b ∧ (p.1 = w.heap.size + 1 + 1 → p.2 = .cells (roundsA g.n ρ) 3) ∧ (p.1 ≠ w.heap.size + 1 + 1 → ∀ ρ', p ∈ L ρ') := by
    intro ρ p hp
    rw [hL] at hp
    simp only [List.mem_cons, List.not_mem_nil, or_false] at hp
    rcases hp with rfl | rfl | rfl
    · exact ⟨by simp only; omega, fun h => by simp only at h; omega, fun _ ρ' => by rw [hL]; simp⟩
    · exact ⟨by simp only; omega, fun _ => rfl, fun h => absurd rfl h⟩
    · exact ⟨Nat.le_refl _, fun h => by simp only at h; omega, fun _ ρ' => by rw [hL]; simp⟩
  have ST : ∀ {ρ : Nat → Int} {W : World} {X : List (Nat × Obj)} (k : Int) (x : Nat), Boxes (L ρ ++ X) w W → (∀ p ∈ X, b < p.1) → Boxes (L (fun v => if v = x then k else ρ v) ++ X) w (W.setCell ⟨w.heap.size + 1 + 1, x, none⟩ (.int .i64 k)) ∧ (∀ j, j ≠ w.heap.size + 1 + 1 → (W.setCell ⟨w.heap.size + 1 + 1, x, none⟩ (.int .i64 k)).heap[j]? = W.heap[j]?) := by
    intro ρ W X k x h hX
    have hs : ∀ j, j ≠ w.heap.size + 1 + 1 → (W.setCell ⟨w.heap.size + 1 + 1, x, none⟩ (.int .i64 k)).heap[j]? = W.heap[j]? := fun j hj => Below.heap_setCell W ⟨w.heap.size + 1 + 1, x, none⟩ _ j hj
    refine ⟨h.upd h1w (b := w.heap.size + 1 + 1) (by omega) hs rfl rfl rfl (size_setCell _ _ _) ?_, hs⟩
    intro p hp
    rcases List.mem_append.1 hp with hp | hp
    · by_cases hr : p.1 = w.heap.size + 1 + 1
      · right; rw [hr, (LL hp).2.1 hr]; exact roundsA_store (BX h).2.1 k x
      · left; exact ⟨hr, List.mem_append_left _ ((LL hp).2.2 hr _)⟩
    · left; have := hX p hp; exact ⟨by omega, List.mem_append_right _ hp⟩
  have SF : ∀ {ρ W W'} {X : List (Nat × Obj)} {N c : Nat}, Boxes (L ρ ++ X) w W → Safe N c W W' → b < N → b < c → (∀ p ∈ X, p.1 < N ∧ p.1 ≠ c) → Boxes (L ρ ++ X) w W' := by
    intro ρ W W' X N c h k hN hc hX
    refine h.safe k (fun p hp => ?_) (by omega) (by omega) h1w
    rcases List.mem_append.1 hp with hp | hp
    · have := (LL hp).1; exact ⟨by omega, by omega⟩
    · exact hX p hp
  have HL := Lib.hid hL
  clear hL
  refine range_each (n := 7) (c := b + 1) hs' rfl (one_cell n1) (one_frozen n1 0) (by omega)
    (fun pre W => Boxes (L (markR (fun _ => -1) 0 pre) ++ []) w W) (fun _ _ => False) (fun pre W W' h k => SF h k (by omega) (by omega) (by simp)) (fun _ _ _ h _ => h) (fun _ _ h => h.tab)
    ⟨by rw [markR_nil, HL.out]; intro p hp; simp at hp; rcases hp with rfl | rfl | rfl <;> assumption, tab_below bW h1w HT.out, bW⟩
    (fun x => { tmps := #[.agg g.cells, .int .u64 (s : Nat), .func (.func 59) #[] #[], .pointer (some ⟨w.heap.size, 0, none⟩), undef, undef, .int .u64 0, .slice none 0 0, .pointer (some ⟨b, 0, none⟩), .int .i64 (x : Int), undef, undef, undef, .slice (some ⟨w.heap.size + 1, 0, none⟩) 1 1, .pointer (some ⟨w.heap.size, 0, none⟩), .int .i64 (g.n : Int), .slice (some ⟨w.heap.size + 1 + 1, 0, none⟩) g.n g.n, .int .u64 (s : Nat), .func (.func 88) #[] #[.pointer (some ⟨b + 1, 0, none⟩)], .int .i64 (x : Int), undef, undef, undef, undef, undef, undef, undef, undef, undef, undef, undef, undef, undef, undef, undef, undef, undef, undef, undef, undef, undef, undef, undef, undef], defers := [] }) ?assign ?body ?done ?stop
  case assign =>
    intro l x W K hK
    gi_wp2
    exact hK
  case body =>
    intro l D pre x rest W hD hDl hlW hpre hb hnl hnD
    have hx : s.testBit x = true := (mem_bitsOf.1 (by rw [← hpre]; simp)).2
    have hxn : x < g.n := bit_lt HS.out hx
    have hx0 : (0 : Int) ≤ (x : Int) := by omega
    have hx1 : (x : Int) < (g.n : Int) := by omega
    obtain ⟨e0, e1, e2⟩ := BX hb
    have c1 := roundsA_cell e1 x hxn
    have c2 := one_cell e2
    have fz : W.frozen? ⟨w.heap.size + 1 + 1, x, none⟩ = false := one_frozen e1 x
    have HB := Lib.hid hb
    clear hb e0 e1 e2 hpre hx
    gi_wp2
    obtain ⟨z1, z2⟩ := ST 0 x HB.out (by simp)
    rw [mark_snoc] at z1
    exact ⟨⟨z2 _ (by omega), z2 _ (by omega), z2 _ (by omega)⟩, z1⟩
  case stop => exact fun _ _ _ _ h _ => h.elim
  case done =>
    intro D0 W2 hD0 hb0 hDD0
    have hsz2 : b < W2.heap.size := (Array.getElem?_eq_some_iff.1 (BX hb0).2.2).1
    have HB0 := Lib.hid hb0
    have HD0 := Lib.hid hDD0
    clear hb0 hDD0 n0 n1 k0 k1 bW
    unfold marked
    gi_wp2_with fail
    have Z0 : Boxes (L (markR (fun _ => -1) 0 (bitsOf s)) ++ ((W2.heap.size, .cells #[.int .i64 1] 3) :: [D0].map (fun D => (D, Obj.deferred (some []))))) w (W2.alloc (Obj.cells #[Value.int IntKind.i64 1] 3)) := by
      have hq := HB0.out
      refine ⟨?_, ?_, ?_⟩
      · intro p hp
        rcases List.mem_append.1 hp with hp | hp
        · have := (LL hp).1
          exact (Below.heap_alloc _ _ _ (by omega)).trans (hq.box p (List.mem_append_left _ hp))
        · simp only [List.map_cons, List.map_nil, List.mem_cons, List.not_mem_nil, or_false] at hp
          rcases hp with rfl | rfl
          · exact World.alloc_heap_new _ _
          · exact (Below.heap_alloc _ _ _ (Array.getElem?_eq_some_iff.1 HD0.out).1).trans HD0.out
      · exact tab_below ((Below.refl W2.heap.size W2).alloc (Nat.le_refl _) _) (by omega) hq.tab
      · exact hq.below.alloc (by omega) _
    have HZ0 := Lib.hid Z0
    have hbD0 : b < D0 := by omega
    have hD0s : D0 < W2.heap.size := (Array.getElem?_eq_some_iff.1 HD0.out).1
    clear Z0 HB0 HD0 hD0 n2
    refine wpIn_loop_ghost_k (fun k a W => ∃ (s' kk kb : Nat) (Ds : List Nat) (ρ : Nat → Int) (u6 u7 u9 u11 u12 u13 u14 u15 u16 u17 u18 u19 u20 u21 u22 u23 u24 u25 u26 u27 u28 u29 u30 u31 u32 u33 u34 u35 u36 u37 u38 u39 u40 u41 u42 u43 : Value), a = { tmps := #[.agg g.cells, .int .u64 (s' : Nat), .func (.func 59) #[] #[], .pointer (some ⟨w.heap.size, 0, none⟩), undef, undef, u6, u7, .pointer (some ⟨b, 0, none⟩), u9, .pointer (some ⟨kb, 0, none⟩), u11, u12, u13, u14, u15, u16, u17, u18, u19, u20, u21, u22, u23, u24, u25, u26, u27, u28, u29, u30, u31, u32, u33, u34, u35, u36, u37, u38, u39, u40, u41, u42, u43], defers := Ds.map fun D => { target := .collected D, args := #[] } } ∧
      s' < 2 ^ g.n ∧ 2 ^ g.n ≤ k + s' ∧ 1 ≤ kk ∧ kk ≤ s' + 1 ∧ Boxes (L ρ ++ ((kb, .cells #[.int .i64 (kk : Int)] 3) :: Ds.map (fun D => (D, Obj.deferred (some []))))) w W ∧ b < kb ∧ (∀ D ∈ Ds, b < D ∧ D ≠ kb) ∧ Ds.Nodup ∧
      closeM (forcedM g.near) (2 ^ g.n) s 1 (markR (fun _ => -1) 0 (bitsOf s)) = closeM (forcedM g.near) k s' kk ρ) (2 ^ g.n)
      ⟨s, 1, W2.heap.size, [D0], _, _, _, _, _, _, _, _, _, _, _, _, _, _, _, _, _, _, _, _, _, _, _, _, _, _, _, _, _, _, _, _, _, _, _, _, _, rfl, HS.out, by omega, by omega, by omega, HZ0.out, hsz2, (by intro D hD; simp only [List.mem_singleton] at hD; subst hD; exact ⟨hbD0, by omega⟩), by simp, rfl⟩ ?_
    clear HZ0
    rintro gk _ W ⟨s', kk, kb, Ds, ρ, u6, u7, u9, u11, u12, u13, u14, u15, u16, u17, u18, u19, u20, u21, u22, u23, u24, u25, u26, u27, u28, u29, u30, u31, u32, u33, u34, u35, u36, u37, u38, u39, u40, u41, u42, u43, rfl, hs', hgk, hkk1, hkk2, hbx, hbkb, hDs, hnd, hcl⟩ J K hJ hK
    obtain ⟨k', rfl⟩ : ∃ k', gk = k' + 1 := ⟨gk - 1, by omega⟩
    have hX : ∀ p ∈ ((kb, Obj.cells #[.int .i64 (kk : Int)] 3) :: Ds.map (fun D => (D, Obj.deferred (some [])))), b < p.1 := by
      intro p hp
      rcases List.mem_cons.1 hp with rfl | hp
      · exact hbkb
      · obtain ⟨D, hD, rfl⟩ := List.mem_map.1 hp; exact (hDs D hD).1
    obtain ⟨e0, e1, e2⟩ := BX hbx
    have ek : W.heap[kb]? = some (.cells #[.int .i64 (kk : Int)] 3) := hbx.box (_, _) (by simp)
    have r0 := rowOk_of e0
    have r1 := cellsAt_of e0
    have HE2 := Lib.hid e2
    have HEk := Lib.hid ek
    have HBX := Lib.hid hbx
    have hs12 : s' < 4096 := by omega
    have HS' := Lib.hid hs'
    have HX := Lib.hid hX
    have HDs := Lib.hid hDs
    have HND := Lib.hid hnd
    have HCL := Lib.hid hcl
    have HJ := Lib.hid hJ
    clear hs' hbx hX e0 e1 e2 ek hDs hnd hcl hJ
    gi_wp2_with fail
    refine (callsIn_wide.2 (forced_any g HG.out s' HS'.out _ HBX.out.tab)).mono ?_
    rintro e w1 ⟨rfl, hb1⟩
    obtain ⟨F, hF⟩ : ∃ F, (forcedM g.near) s' = F := ⟨_, rfl⟩
    have hF' : forcedM g.near s' = F := hF
    rw [hF']
    have hFlt : F < 2 ^ g.n := by rw [← hF]; exact forcedL_lt HG.out.near _
    have hFd : ∀ i, F.testBit i = true → s'.testBit i = false := by rw [← hF]; exact forced_disj _ _
    have hF12 : F < 4096 := by omega
    have hsz1 := hb1.size
    have hb2 := HBX.out.grow hb1 h1w
    have c2 := one_cell (BX hb2).2.2
    have HBY := Lib.hid hb2
    have HFD := Lib.hid hFd
    have HF := Lib.hid hF
    clear hb1 hb2 hF hF' hFd HBX HEk HE2 r0 r1
    by_cases hz : F = 0
    · subst hz
      gi_wp2_with fail
      refine quiet_plain rfl (by kernel_rfl) (by kernel_rfl) ?_
      repeat (gi_big_quiet_step (fail))
      refine wpQuietIn_nil ?_
      rintro _ ⟨nq, rfl⟩
      gi_wp2_with fail
      have hx := HCL.out
      rw [closeM, if_pos HF.out] at hx
      rw [hx]
      refine leaves_all Ds _ HND.out (fun D hD => HBY.out.box (D, _) (List.mem_append_right _ (List.mem_cons_of_mem _ (List.mem_map.2 ⟨D, hD, rfl⟩)))) (fun W' q1 q2 q3 => ?_)
      have hRD : w.heap.size + 1 + 1 ∉ Ds := fun h => by have := (HDs.out _ h).1; omega
      refine ⟨_, results_tmp2 rfl _ _ _, w.heap.size + 1 + 1, rfl, by omega, (q1 _ hRD).trans (BX HBY.out).2.1, (HBY.out.drew nq).below.trans (q3 _ (fun D hD => by have := (HDs.out D hD).1; omega))⟩
    · have hzb : ((F : Int) == 0) = false := by rw [beq_eq_false_iff_ne]; omega
      have HZ := Lib.hid hz
      clear hz
      gi_wp2_with fail
      refine (callsIn_wide.2 (each_any F _)).mono ?_
      rintro e w' ⟨rfl, rfl⟩
      gi_wp2_with fail
      obtain ⟨n0, n1, n3⟩ := lay1 w1 (.cells #[.int .u64 ((F : Nat) : Int)] 78)
      have hb3 := HBY.out.grow n3 h1w
      have hkb := (Array.getElem?_eq_some_iff.1 (HBY.out.box (kb, .cells #[.int .i64 (kk : Int)] 3) (by simp))).1
      have hkb' : kb < w1.heap.size := hkb
      have hDlt : ∀ D ∈ Ds, D < w1.heap.size := fun D hD => (Array.getElem?_eq_some_iff.1 (HBY.out.box (D, _) (List.mem_append_right _ (List.mem_cons_of_mem _ (List.mem_map.2 ⟨D, hD, rfl⟩))))).1
      generalize hc : w1.heap.size = c at n0 n1 hkb' hDlt
      generalize w1.alloc (Obj.cells #[Value.int IntKind.u64 ↑F] 78) = W3 at n0 n1 hb3 ⊢
      have hXc : ∀ p ∈ ((kb, Obj.cells #[.int .i64 (kk : Int)] 3) :: Ds.map (fun D => (D, Obj.deferred (some [])))), p.1 < c := by
        intro p hp
        rcases List.mem_cons.1 hp with rfl | hp
        · exact hkb'
        · obtain ⟨D, hD, rfl⟩ := List.mem_map.1 hp; exact hDlt D hD
      have HB3 := Lib.hid hb3
      have HXC := Lib.hid hXc
      have HDL := Lib.hid hDlt
      clear hb3 hXc hDlt HBY n3 hkb
      refine range_each (n := 7) (c := c) hF12 rfl (one_cell n0) (one_frozen n0 0) (by omega)
        (fun pre W => Boxes (L (markR ρ kk pre) ++ ((kb, .cells #[.int .i64 (kk : Int)] 3) :: Ds.map (fun D => (D, Obj.deferred (some []))))) w W) (fun _ _ => False)
        (fun pre W W' h k => SF h k (by omega) (by omega) (fun p hp => by have := HXC.out p hp; exact ⟨by omega, by omega⟩)) (fun _ _ _ h _ => h) (fun _ _ h => h.tab)
        (by rw [markR_nil]; exact HB3.out)
        (fun x => { tmps := #[.agg g.cells, .int .u64 (s' : Nat), .func (.func 59) #[] #[], .pointer (some ⟨w.heap.size, 0, none⟩), undef, undef, u6, u7, .pointer (some ⟨b, 0, none⟩), u9, .pointer (some ⟨kb, 0, none⟩), .int .u64 (F : Nat), .int .i64 (x : Int), u13, u14, u15, u16, u17, u18, u19, u20, u21, u22, u23, u24, .func (.func 59) #[] #[], .agg g.cells, .int .u64 (s' : Nat), .int .u64 (F : Nat), .int .u64 (F : Nat), .bool false, u31, u32, .int .u64 (F : Nat), .func (.func 88) #[] #[.pointer (some ⟨c, 0, none⟩)], .int .i64 (x : Int), u36, u37, u38, u39, u40, u41, u42, u43], defers := [] }) ?assign2 ?body2 ?done2 ?stop2
      case assign2 =>
        intro l x W K hK
        gi_wp2
        exact hK
      case body2 =>
        intro l D pre x rest W hD hDl hlW hpre hb hnl hnD
        have hx : F.testBit x = true := (mem_bitsOf.1 (by rw [← hpre]; simp)).2
        have hxn : x < g.n := bit_lt hFlt hx
        have hx0 : (0 : Int) ≤ (x : Int) := by omega
        have hx1 : (x : Int) < (g.n : Int) := by omega
        obtain ⟨e0, e1, e2⟩ := BX hb
        have c1 := roundsA_cell e1 x hxn
        have c2 := one_cell e2
        have ck := one_cell (hb.box (kb, .cells #[.int .i64 (kk : Int)] 3) (by simp))
        have fz : W.frozen? ⟨w.heap.size + 1 + 1, x, none⟩ = false := one_frozen e1 x
        have HB := Lib.hid hb
        clear hb e0 e1 e2 hpre hx
        gi_wp2
        obtain ⟨z1, z2⟩ := ST (kk : Int) x HB.out HX.out
        rw [mark_snoc] at z1
        exact ⟨⟨z2 _ (by omega), z2 _ (by omega), z2 _ (by omega)⟩, z1⟩
      case stop2 => exact fun _ _ _ _ h _ => h.elim
      case done2 =>
        intro D1 W4 hD1 hb4 hDD1
        have ck := one_cell (hb4.box (kb, .cells #[.int .i64 (kk : Int)] 3) (by simp))
        have hbs4 : b < W4.heap.size := (Array.getElem?_eq_some_iff.1 (BX hb4).2.2).1
        have hkk4 : (kk : Int) < 9223372036854775807 := by omega
        have hD1s : D1 < W4.heap.size := (Array.getElem?_eq_some_iff.1 hDD1).1
        have HB4 := Lib.hid hb4
        have HD1 := Lib.hid hDD1
        clear hb4 hDD1 n0
        unfold marked
        gi_wp2_with fail
        rw [M.nu_or s' F (by omega) (by omega)]
        refine Handed.intro k' (by omega) (HJ.out _ _ _ ⟨s' ||| F, kk + 1, W4.heap.size, D1 :: Ds, markR ρ kk (bitsOf F), _, _, _, _, _, _, _, _, _, _, _, _, _, _, _, _, _, _, _, _, _, _, _, _, _, _, _, _, _, _, _, _, _, _, _, _, rfl, Nat.or_lt_two_pow HS'.out hFlt, ?_, by omega, ?_, ?_, hbs4, ?_, ?_, ?_⟩)
        · have := or_gt' HZ.out (by omega) HFD.out; omega
        · have := or_gt' HZ.out (by omega) HFD.out; omega
        · have hq := HB4.out
          have ekk : ((kk + 1 : Nat) : Int) = (kk : Int) + 1 := by omega
          rw [ekk]
          refine ⟨?_, tab_below ((Below.refl W4.heap.size W4).alloc (Nat.le_refl _) _) (by omega) hq.tab, hq.below.alloc (by omega) _⟩
          intro p hp
          rcases List.mem_append.1 hp with hp | hp
          · have := (LL hp).1
            exact (Below.heap_alloc _ _ _ (by omega)).trans (hq.box p (List.mem_append_left _ hp))
          · rcases List.mem_cons.1 hp with rfl | hp
            · exact World.alloc_heap_new _ _
            · rw [List.map_cons] at hp
              rcases List.mem_cons.1 hp with rfl | hp
              · exact (Below.heap_alloc _ _ _ hD1s).trans HD1.out
              · have h4 := hq.box p (List.mem_append_right _ (List.mem_cons_of_mem _ hp))
                exact (Below.heap_alloc _ _ _ (Array.getElem?_eq_some_iff.1 h4).1).trans h4
        · intro D hD
          rcases List.mem_cons.1 hD with rfl | hD
          · exact ⟨by omega, by omega⟩
          · have := HDL.out D hD; have := (HDs.out D hD).1; exact ⟨by omega, by omega⟩
        · refine List.nodup_cons.2 ⟨fun h => ?_, HND.out⟩
          have := HDL.out D1 h; omega
        · have hx := HCL.out
          rw [closeM, HF.out, if_neg HZ.out] at hx
          exact hx
set_option maxHeartbeats 4000000 in
set_option maxRecDepth 100000 in
theorem closeS_any (g : Gr) (hg : g.Ok) (s : Nat) (hs : s < 2 ^ g.n) (r : Int) (rb : Nat) (w : World) (ht : Tab w) (hr : w.heap[rb]? = some (.cells #[.int .i64 r] 3)) :
    Calls Tryd.prog 65 #[.agg g.cells, .int .u64 s, .func (.func 85) #[] #[.pointer (some ⟨rb, 0, none⟩)]] w fun e w' => ∃ R, e = .returned (.tuple #[.int .u64 ((closeM (soakedM g.n g.near r) (2 ^ g.n) s 1 (markR (fun _ => -1) 0 (bitsOf s))).1 : Nat), .slice (some ⟨R, 0, none⟩) g.n g.n]) ∧ w.heap.size ≤ R ∧
      w'.heap[R]? = some (.cells (roundsA g.n (closeM (soakedM g.n g.near r) (2 ^ g.n) s 1 (markR (fun _ => -1) 0 (bitsOf s))).2) 3) ∧ Below w.heap.size w w' := by
  have hs' : s < 4096 := Nat.lt_of_lt_of_le hs (Nat.pow_le_pow_right (by decide) hg.le)
  have h1w : 1 < w.heap.size := (ht 0 (by decide)).2
  refine (callsIn_wide (n := 9)).1 ?_
  refine callsIn_of_wp_marks Tryd.func65 rfl trivial ?_ rfl
  simp only [Tryd.ntmps65, List.size_toArray, List.length_cons, List.length_nil, Nat.reduceAdd, Nat.reduceSub, Array.replicate_succ, Array.replicate_zero, List.push_toArray, List.append_toArray, List.nil_append, List.cons_append]
  have hpos := hg.pos
  have hle := hg.le
  have hp12 : 2 ^ g.n ≤ 4096 := Nat.pow_le_pow_right (by decide) hle
  have HG := Lib.hid hg
  have HS := Lib.hid hs
  have HT := Lib.hid ht
  have hrb : rb < w.heap.size := (Array.getElem?_eq_some_iff.1 hr).1
  have HRB := Lib.hid hr
  clear hr
  clear hg hs ht
  have hg0 : g.cells[0]? = some (.int .i64 (g.n : Int)) := rfl
  gi_wp2_with fail
  refine (callsIn_wide.2 (repeat_any g.n hpos hle (w.heap.size + 1) _ (by simp) (by simp))).mono ?_
  rintro e w1 ⟨rfl, hR, hb1⟩
  obtain ⟨f0, f1, f2, f3⟩ := lay2 w (.cells g.cells 81) (.cells #[.int .i64 (-1)] 3)
  generalize ((w.alloc (Obj.cells g.cells 81)).alloc (Obj.cells #[Value.int IntKind.i64 (-1)] 3)) = W0 at f0 f1 f2 f3 hR hb1 ⊢
  rw [f2] at hb1 hR
  simp only [f2]
  have hR1 := (Array.getElem?_eq_some_iff.1 hR).1
  have g0 := (hb1.block w.heap.size (by omega)).trans f0
  have bw1 := f3.trans (hb1.mono (B' := w.heap.size) (by omega))
  rw [roundsA_const] at hR
  have HR := Lib.hid hR
  have HG0 := Lib.hid g0
  have HB1 := Lib.hid bw1
  clear f0 f1 f2 f3 hb1 hR g0 bw1 W0
  gi_wp2_with fail
  refine (callsIn_wide.2 (each_any s _)).mono ?_
  rintro e w' ⟨rfl, rfl⟩
  gi_wp2_with fail
  obtain ⟨n0, n1, n2, n3⟩ := lay2 w1 (.cells #[.slice (some ⟨w.heap.size + 1 + 1, 0, none⟩) g.n g.n] 24) (.cells #[.int .u64 ((s : Nat) : Int)] 78)
  generalize hb : w1.heap.size = b at n0 n1 n2 n3 hR1
  have k0 := (n3.block w.heap.size (by omega)).trans HG0.out
  have k1 := (n3.block (w.heap.size + 1 + 1) (by omega)).trans HR.out
  have bW := HB1.out.trans (n3.mono (B' := w.heap.size) (by omega))
  clear HG0 HR HB1 n3
  generalize ((w1.alloc (Obj.cells #[Value.slice (some { block := w.heap.size + 1 + 1, off := 0 }) g.n g.n] 24)).alloc (Obj.cells #[Value.int IntKind.u64 ↑s] 78)) = W1 at n0 n1 n2 k0 k1 bW ⊢
  obtain ⟨L, hL⟩ : ∃ L : (Nat → Int) → List (Nat × Obj), L = fun ρ => [(w.heap.size, .cells g.cells 81), (w.heap.size + 1 + 1, .cells (roundsA g.n ρ) 3), (b, .cells #[.slice (some ⟨w.heap.size + 1 + 1, 0, none⟩) g.n g.n] 24)] := ⟨_, rfl⟩
  have BX : ∀ {ρ W} {X : List (Nat × Obj)}, Boxes (L ρ ++ X) w W → W.heap[w.heap.size]? = some (.cells g.cells 81) ∧ W.heap[w.heap.size + 1 + 1]? = some (.cells (roundsA g.n ρ) 3) ∧ W.heap[b]? = some (.cells #[.slice (some ⟨w.heap.size + 1 + 1, 0, none⟩) g.n g.n] 24) := by
    intro ρ W X h
    rw [hL] at h
    exact ⟨h.box (_, _) (by simp), h.box (_, _) (by simp), h.box (_, _) (by simp)⟩
  have LL : ∀ {ρ} {p : Nat × Obj}, p ∈ L ρ → p.1 ≤ b ∧ (p.1 = w.heap.size + 1 + 1 → p.2 = .cells (roundsA g.n ρ) 3) ∧ (p.1 ≠ w.heap.size + 1 + 1 → ∀ ρ', p ∈ L ρ') := by
    intro ρ p hp
    rw [hL] at hp
    simp only [List.mem_cons, List.not_mem_nil, or_false] at hp
    rcases hp with rfl | rfl | rfl
    · exact ⟨by simp only; omega, fun h => by simp only at h; omega, fun _ ρ' => by rw [hL]; simp⟩
    · exact ⟨by simp only; omega, fun _ => rfl, fun h => absurd rfl h⟩
    · exact ⟨Nat.le_refl _, fun h => by simp only at h; omega, fun _ ρ' => by rw [hL]; simp⟩
  have ST : ∀ {ρ : Nat → Int} {W : World} {X : List (Nat × Obj)} (k : Int) (x : Nat), Boxes (L ρ ++ X) w W → (∀ p ∈ X, b < p.1) → Boxes (L (fun v => if v = x then k else ρ v) ++ X) w (W.setCell ⟨w.heap.size + 1 + 1, x, none⟩ (.int .i64 k)) ∧ (∀ j, j ≠ w.heap.size + 1 + 1 → (W.setCell ⟨w.heap.size + 1 + 1, x, none⟩ (.int .i64 k)).heap[j]? = W.heap[j]?) := by
    intro ρ W X k x h hX
    have hs : ∀ j, j ≠ w.heap.size + 1 + 1 → (W.setCell ⟨w.heap.size + 1 + 1, x, none⟩ (.int .i64 k)).heap[j]? = W.heap[j]? := fun j hj => Below.heap_setCell W ⟨w.heap.size + 1 + 1, x, none⟩ _ j hj
    refine ⟨h.upd h1w (b := w.heap.size + 1 + 1) (by omega) hs rfl rfl rfl (size_setCell _ _ _) ?_, hs⟩
    intro p hp
    rcases List.mem_append.1 hp with hp | hp
    · by_cases hr : p.1 = w.heap.size + 1 + 1
      · right; rw [hr, (LL hp).2.1 hr]; exact roundsA_store (BX h).2.1 k x
      · left; exact ⟨hr, List.mem_append_left _ ((LL hp).2.2 hr _)⟩
    · left; have := hX p hp; exact ⟨by omega, List.mem_append_right _ hp⟩
  have SF : ∀ {ρ W W'} {X : List (Nat × Obj)} {N c : Nat}, Boxes (L ρ ++ X) w W → Safe N c W W' → b < N → b < c → (∀ p ∈ X, p.1 < N ∧ p.1 ≠ c) → Boxes (L ρ ++ X) w W' := by
    intro ρ W W' X N c h k hN hc hX
    refine h.safe k (fun p hp => ?_) (by omega) (by omega) h1w
    rcases List.mem_append.1 hp with hp | hp
    · have := (LL hp).1; exact ⟨by omega, by omega⟩
    · exact hX p hp
  have HL := Lib.hid hL
  clear hL
  refine range_each (n := 7) (c := b + 1) hs' rfl (one_cell n1) (one_frozen n1 0) (by omega)
    (fun pre W => Boxes (L (markR (fun _ => -1) 0 pre) ++ []) w W) (fun _ _ => False) (fun pre W W' h k => SF h k (by omega) (by omega) (by simp)) (fun _ _ _ h _ => h) (fun _ _ h => h.tab)
    ⟨by rw [markR_nil, HL.out]; intro p hp; simp at hp; rcases hp with rfl | rfl | rfl <;> assumption, tab_below bW h1w HT.out, bW⟩
    (fun x => { tmps := #[.agg g.cells, .int .u64 (s : Nat), .func (.func 85) #[] #[.pointer (some ⟨rb, 0, none⟩)], .pointer (some ⟨w.heap.size, 0, none⟩), undef, undef, .int .u64 0, .slice none 0 0, .pointer (some ⟨b, 0, none⟩), .int .i64 (x : Int), undef, undef, undef, .slice (some ⟨w.heap.size + 1, 0, none⟩) 1 1, .pointer (some ⟨w.heap.size, 0, none⟩), .int .i64 (g.n : Int), .slice (some ⟨w.heap.size + 1 + 1, 0, none⟩) g.n g.n, .int .u64 (s : Nat), .func (.func 88) #[] #[.pointer (some ⟨b + 1, 0, none⟩)], .int .i64 (x : Int), undef, undef, undef, undef, undef, undef, undef, undef, undef, undef, undef, undef, undef, undef, undef, undef, undef, undef, undef, undef, undef, undef, undef, undef], defers := [] }) ?assign ?body ?done ?stop
  case assign =>
    intro l x W K hK
    gi_wp2
    exact hK
  case body =>
    intro l D pre x rest W hD hDl hlW hpre hb hnl hnD
    have hx : s.testBit x = true := (mem_bitsOf.1 (by rw [← hpre]; simp)).2
    have hxn : x < g.n := bit_lt HS.out hx
    have hx0 : (0 : Int) ≤ (x : Int) := by omega
    have hx1 : (x : Int) < (g.n : Int) := by omega
    obtain ⟨e0, e1, e2⟩ := BX hb
    have c1 := roundsA_cell e1 x hxn
    have c2 := one_cell e2
    have fz : W.frozen? ⟨w.heap.size + 1 + 1, x, none⟩ = false := one_frozen e1 x
    have HB := Lib.hid hb
    clear hb e0 e1 e2 hpre hx
    gi_wp2
    obtain ⟨z1, z2⟩ := ST 0 x HB.out (by simp)
    rw [mark_snoc] at z1
    exact ⟨⟨z2 _ (by omega), z2 _ (by omega), z2 _ (by omega)⟩, z1⟩
  case stop => exact fun _ _ _ _ h _ => h.elim
  case done =>
    intro D0 W2 hD0 hb0 hDD0
    have hsz2 : b < W2.heap.size := (Array.getElem?_eq_some_iff.1 (BX hb0).2.2).1
    have HB0 := Lib.hid hb0
    have HD0 := Lib.hid hDD0
    clear hb0 hDD0 n0 n1 k0 k1 bW
    unfold marked
    gi_wp2_with fail
    have Z0 : Boxes (L (markR (fun _ => -1) 0 (bitsOf s)) ++ ((W2.heap.size, .cells #[.int .i64 1] 3) :: [D0].map (fun D => (D, Obj.deferred (some []))))) w (W2.alloc (Obj.cells #[Value.int IntKind.i64 1] 3)) := by
      have hq := HB0.out
      refine ⟨?_, ?_, ?_⟩
      · intro p hp
        rcases List.mem_append.1 hp with hp | hp
        · have := (LL hp).1
          exact (Below.heap_alloc _ _ _ (by omega)).trans (hq.box p (List.mem_append_left _ hp))
        · simp only [List.map_cons, List.map_nil, List.mem_cons, List.not_mem_nil, or_false] at hp
          rcases hp with rfl | rfl
          · exact World.alloc_heap_new _ _
          · exact (Below.heap_alloc _ _ _ (Array.getElem?_eq_some_iff.1 HD0.out).1).trans HD0.out
      · exact tab_below ((Below.refl W2.heap.size W2).alloc (Nat.le_refl _) _) (by omega) hq.tab
      · exact hq.below.alloc (by omega) _
    have HZ0 := Lib.hid Z0
    have hbD0 : b < D0 := by omega
    have hD0s : D0 < W2.heap.size := (Array.getElem?_eq_some_iff.1 HD0.out).1
    clear Z0 HB0 HD0 hD0 n2
    refine wpIn_loop_ghost_k (fun k a W => ∃ (s' kk kb : Nat) (Ds : List Nat) (ρ : Nat → Int) (u6 u7 u9 u11 u12 u13 u14 u15 u16 u17 u18 u19 u20 u21 u22 u23 u24 u25 u26 u27 u28 u29 u30 u31 u32 u33 u34 u35 u36 u37 u38 u39 u40 u41 u42 u43 : Value), a = { tmps := #[.agg g.cells, .int .u64 (s' : Nat), .func (.func 85) #[] #[.pointer (some ⟨rb, 0, none⟩)], .pointer (some ⟨w.heap.size, 0, none⟩), undef, undef, u6, u7, .pointer (some ⟨b, 0, none⟩), u9, .pointer (some ⟨kb, 0, none⟩), u11, u12, u13, u14, u15, u16, u17, u18, u19, u20, u21, u22, u23, u24, u25, u26, u27, u28, u29, u30, u31, u32, u33, u34, u35, u36, u37, u38, u39, u40, u41, u42, u43], defers := Ds.map fun D => { target := .collected D, args := #[] } } ∧
      s' < 2 ^ g.n ∧ 2 ^ g.n ≤ k + s' ∧ 1 ≤ kk ∧ kk ≤ s' + 1 ∧ Boxes (L ρ ++ ((kb, .cells #[.int .i64 (kk : Int)] 3) :: Ds.map (fun D => (D, Obj.deferred (some []))))) w W ∧ b < kb ∧ (∀ D ∈ Ds, b < D ∧ D ≠ kb) ∧ Ds.Nodup ∧
      closeM (soakedM g.n g.near r) (2 ^ g.n) s 1 (markR (fun _ => -1) 0 (bitsOf s)) = closeM (soakedM g.n g.near r) k s' kk ρ) (2 ^ g.n)
      ⟨s, 1, W2.heap.size, [D0], _, _, _, _, _, _, _, _, _, _, _, _, _, _, _, _, _, _, _, _, _, _, _, _, _, _, _, _, _, _, _, _, _, _, _, _, _, rfl, HS.out, by omega, by omega, by omega, HZ0.out, hsz2, (by intro D hD; simp only [List.mem_singleton] at hD; subst hD; exact ⟨hbD0, by omega⟩), by simp, rfl⟩ ?_
    clear HZ0
    rintro gk _ W ⟨s', kk, kb, Ds, ρ, u6, u7, u9, u11, u12, u13, u14, u15, u16, u17, u18, u19, u20, u21, u22, u23, u24, u25, u26, u27, u28, u29, u30, u31, u32, u33, u34, u35, u36, u37, u38, u39, u40, u41, u42, u43, rfl, hs', hgk, hkk1, hkk2, hbx, hbkb, hDs, hnd, hcl⟩ J K hJ hK
    obtain ⟨k', rfl⟩ : ∃ k', gk = k' + 1 := ⟨gk - 1, by omega⟩
    have hX : ∀ p ∈ ((kb, Obj.cells #[.int .i64 (kk : Int)] 3) :: Ds.map (fun D => (D, Obj.deferred (some [])))), b < p.1 := by
      intro p hp
      rcases List.mem_cons.1 hp with rfl | hp
      · exact hbkb
      · obtain ⟨D, hD, rfl⟩ := List.mem_map.1 hp; exact (hDs D hD).1
    obtain ⟨e0, e1, e2⟩ := BX hbx
    have ek : W.heap[kb]? = some (.cells #[.int .i64 (kk : Int)] 3) := hbx.box (_, _) (by simp)
    have r0 := rowOk_of e0
    have r1 := cellsAt_of e0
    have HE2 := Lib.hid e2
    have HEk := Lib.hid ek
    have HBX := Lib.hid hbx
    have hs12 : s' < 4096 := by omega
    have HS' := Lib.hid hs'
    have HX := Lib.hid hX
    have HDs := Lib.hid hDs
    have HND := Lib.hid hnd
    have HCL := Lib.hid hcl
    have HJ := Lib.hid hJ
    clear hs' hbx hX e0 e1 e2 ek hDs hnd hcl hJ
    gi_wp2_with fail
    refine (callsIn_wide.2 (soaked1_any g HG.out s' HS'.out r rb _ HBX.out.tab ((HBX.out.below.block rb hrb).trans HRB.out))).mono ?_
    rintro e w1 ⟨rfl, hb1⟩
    obtain ⟨F, hF⟩ : ∃ F, (soakedM g.n g.near r) s' = F := ⟨_, rfl⟩
    have hF' : soakedM g.n g.near r s' = F := hF
    rw [hF']
    have hFlt : F < 2 ^ g.n := by rw [← hF]; exact soakedM_lt _ _ _ _
    have hFd : ∀ i, F.testBit i = true → s'.testBit i = false := by rw [← hF]; exact soaked_disj _ _ _ _
    have hF12 : F < 4096 := by omega
    have hsz1 := hb1.size
    have hb2 := HBX.out.grow hb1 h1w
    have c2 := one_cell (BX hb2).2.2
    have HBY := Lib.hid hb2
    have HFD := Lib.hid hFd
    have HF := Lib.hid hF
    clear hb1 hb2 hF hF' hFd HBX HEk HE2 r0 r1
    by_cases hz : F = 0
    · subst hz
      gi_wp2_with fail
      refine quiet_plain rfl (by kernel_rfl) (by kernel_rfl) ?_
      repeat (gi_big_quiet_step (fail))
      refine wpQuietIn_nil ?_
      rintro _ ⟨nq, rfl⟩
      gi_wp2_with fail
      have hx := HCL.out
      rw [closeM, if_pos HF.out] at hx
      rw [hx]
      refine leaves_all Ds _ HND.out (fun D hD => HBY.out.box (D, _) (List.mem_append_right _ (List.mem_cons_of_mem _ (List.mem_map.2 ⟨D, hD, rfl⟩)))) (fun W' q1 q2 q3 => ?_)
      have hRD : w.heap.size + 1 + 1 ∉ Ds := fun h => by have := (HDs.out _ h).1; omega
      refine ⟨_, results_tmp2 rfl _ _ _, w.heap.size + 1 + 1, rfl, by omega, (q1 _ hRD).trans (BX HBY.out).2.1, (HBY.out.drew nq).below.trans (q3 _ (fun D hD => by have := (HDs.out D hD).1; omega))⟩
    · have hzb : ((F : Int) == 0) = false := by rw [beq_eq_false_iff_ne]; omega
      have HZ := Lib.hid hz
      clear hz
      gi_wp2_with fail
      refine (callsIn_wide.2 (each_any F _)).mono ?_
      rintro e w' ⟨rfl, rfl⟩
      gi_wp2_with fail
      obtain ⟨n0, n1, n3⟩ := lay1 w1 (.cells #[.int .u64 ((F : Nat) : Int)] 78)
      have hb3 := HBY.out.grow n3 h1w
      have hkb := (Array.getElem?_eq_some_iff.1 (HBY.out.box (kb, .cells #[.int .i64 (kk : Int)] 3) (by simp))).1
      have hkb' : kb < w1.heap.size := hkb
      have hDlt : ∀ D ∈ Ds, D < w1.heap.size := fun D hD => (Array.getElem?_eq_some_iff.1 (HBY.out.box (D, _) (List.mem_append_right _ (List.mem_cons_of_mem _ (List.mem_map.2 ⟨D, hD, rfl⟩))))).1
      generalize hc : w1.heap.size = c at n0 n1 hkb' hDlt
      generalize w1.alloc (Obj.cells #[Value.int IntKind.u64 ↑F] 78) = W3 at n0 n1 hb3 ⊢
      have hXc : ∀ p ∈ ((kb, Obj.cells #[.int .i64 (kk : Int)] 3) :: Ds.map (fun D => (D, Obj.deferred (some [])))), p.1 < c := by
        intro p hp
        rcases List.mem_cons.1 hp with rfl | hp
        · exact hkb'
        · obtain ⟨D, hD, rfl⟩ := List.mem_map.1 hp; exact hDlt D hD
      have HB3 := Lib.hid hb3
      have HXC := Lib.hid hXc
      have HDL := Lib.hid hDlt
      clear hb3 hXc hDlt HBY n3 hkb
      refine range_each (n := 7) (c := c) hF12 rfl (one_cell n0) (one_frozen n0 0) (by omega)
        (fun pre W => Boxes (L (markR ρ kk pre) ++ ((kb, .cells #[.int .i64 (kk : Int)] 3) :: Ds.map (fun D => (D, Obj.deferred (some []))))) w W) (fun _ _ => False)
        (fun pre W W' h k => SF h k (by omega) (by omega) (fun p hp => by have := HXC.out p hp; exact ⟨by omega, by omega⟩)) (fun _ _ _ h _ => h) (fun _ _ h => h.tab)
        (by rw [markR_nil]; exact HB3.out)
        (fun x => { tmps := #[.agg g.cells, .int .u64 (s' : Nat), .func (.func 85) #[] #[.pointer (some ⟨rb, 0, none⟩)], .pointer (some ⟨w.heap.size, 0, none⟩), undef, undef, u6, u7, .pointer (some ⟨b, 0, none⟩), u9, .pointer (some ⟨kb, 0, none⟩), .int .u64 (F : Nat), .int .i64 (x : Int), u13, u14, u15, u16, u17, u18, u19, u20, u21, u22, u23, u24, .func (.func 85) #[] #[.pointer (some ⟨rb, 0, none⟩)], .agg g.cells, .int .u64 (s' : Nat), .int .u64 (F : Nat), .int .u64 (F : Nat), .bool false, u31, u32, .int .u64 (F : Nat), .func (.func 88) #[] #[.pointer (some ⟨c, 0, none⟩)], .int .i64 (x : Int), u36, u37, u38, u39, u40, u41, u42, u43], defers := [] }) ?assign2 ?body2 ?done2 ?stop2
      case assign2 =>
        intro l x W K hK
        gi_wp2
        exact hK
      case body2 =>
        intro l D pre x rest W hD hDl hlW hpre hb hnl hnD
        have hx : F.testBit x = true := (mem_bitsOf.1 (by rw [← hpre]; simp)).2
        have hxn : x < g.n := bit_lt hFlt hx
        have hx0 : (0 : Int) ≤ (x : Int) := by omega
        have hx1 : (x : Int) < (g.n : Int) := by omega
        obtain ⟨e0, e1, e2⟩ := BX hb
        have c1 := roundsA_cell e1 x hxn
        have c2 := one_cell e2
        have ck := one_cell (hb.box (kb, .cells #[.int .i64 (kk : Int)] 3) (by simp))
        have fz : W.frozen? ⟨w.heap.size + 1 + 1, x, none⟩ = false := one_frozen e1 x
        have HB := Lib.hid hb
        clear hb e0 e1 e2 hpre hx
        gi_wp2
        obtain ⟨z1, z2⟩ := ST (kk : Int) x HB.out HX.out
        rw [mark_snoc] at z1
        exact ⟨⟨z2 _ (by omega), z2 _ (by omega), z2 _ (by omega)⟩, z1⟩
      case stop2 => exact fun _ _ _ _ h _ => h.elim
      case done2 =>
        intro D1 W4 hD1 hb4 hDD1
        have ck := one_cell (hb4.box (kb, .cells #[.int .i64 (kk : Int)] 3) (by simp))
        have hbs4 : b < W4.heap.size := (Array.getElem?_eq_some_iff.1 (BX hb4).2.2).1
        have hkk4 : (kk : Int) < 9223372036854775807 := by omega
        have hD1s : D1 < W4.heap.size := (Array.getElem?_eq_some_iff.1 hDD1).1
        have HB4 := Lib.hid hb4
        have HD1 := Lib.hid hDD1
        clear hb4 hDD1 n0
        unfold marked
        gi_wp2_with fail
        rw [M.nu_or s' F (by omega) (by omega)]
        refine Handed.intro k' (by omega) (HJ.out _ _ _ ⟨s' ||| F, kk + 1, W4.heap.size, D1 :: Ds, markR ρ kk (bitsOf F), _, _, _, _, _, _, _, _, _, _, _, _, _, _, _, _, _, _, _, _, _, _, _, _, _, _, _, _, _, _, _, _, _, _, _, _, rfl, Nat.or_lt_two_pow HS'.out hFlt, ?_, by omega, ?_, ?_, hbs4, ?_, ?_, ?_⟩)
        · have := or_gt' HZ.out (by omega) HFD.out; omega
        · have := or_gt' HZ.out (by omega) HFD.out; omega
        · have hq := HB4.out
          have ekk : ((kk + 1 : Nat) : Int) = (kk : Int) + 1 := by omega
          rw [ekk]
          refine ⟨?_, tab_below ((Below.refl W4.heap.size W4).alloc (Nat.le_refl _) _) (by omega) hq.tab, hq.below.alloc (by omega) _⟩
          intro p hp
          rcases List.mem_append.1 hp with hp | hp
          · have := (LL hp).1
            exact (Below.heap_alloc _ _ _ (by omega)).trans (hq.box p (List.mem_append_left _ hp))
          · rcases List.mem_cons.1 hp with rfl | hp
            · exact World.alloc_heap_new _ _
            · rw [List.map_cons] at hp
              rcases List.mem_cons.1 hp with rfl | hp
              · exact (Below.heap_alloc _ _ _ hD1s).trans HD1.out
              · have h4 := hq.box p (List.mem_append_right _ (List.mem_cons_of_mem _ hp))
                exact (Below.heap_alloc _ _ _ (Array.getElem?_eq_some_iff.1 h4).1).trans h4
        · intro D hD
          rcases List.mem_cons.1 hD with rfl | hD
          · exact ⟨by omega, by omega⟩
          · have := HDL.out D hD; have := (HDs.out D hD).1; exact ⟨by omega, by omega⟩
        · refine List.nodup_cons.2 ⟨fun h => ?_, HND.out⟩
          have := HDL.out D1 h; omega
        · have hx := HCL.out
          rw [closeM, HF.out, if_neg HZ.out] at hx
          exact hx
end Go.Proofs.YtpbeaaihdmfnlaaDoor.H

/- ### Wi -/
namespace Go.Proofs.YtpbeaaihdmfnlaaDoor.H
open Go Go.RowKit Go.Shelf Go.Proofs.YtpbeaaihdmfnlaaDoor.M Go.Proofs.YtpbeaaihdmfnlaaDoor.G Go.Proofs.YtpbeaaihdmfnlaaDoorW.PrintWords
attribute [local go_sem] Oper.semAt_some wide_fn
attribute [local go_sem ↓ high] loadAt81
attribute [local go_sem] rowOk_drew cellsAt_drew run_loadRow
/-- The cells of a graph's box, the first one any number. -/
def cellsI (x : Int) (near : Nat → Nat) : Array Value :=
  #[.int .i64 x, .int .u64 (near 0), .int .u64 (near 1), .int .u64 (near 2), .int .u64 (near 3), .int .u64 (near 4), .int .u64 (near 5),
    .int .u64 (near 6), .int .u64 (near 7), .int .u64 (near 8), .int .u64 (near 9), .int .u64 (near 10), .int .u64 (near 11)]
theorem cells_eq (g : Gr) : g.cells = cellsI g.n g.near := rfl
/-- A block of thirteen cells that may be written. -/
def rowFree (W : World) (B : Nat) : Bool := match W.heap[B]? with
  | some (.cells cs _ (0, 0)) => cs.size == 13
  | _ => false
def aggOk (cs : Array Value) : Bool := cs.size == 13 && cs.all (·.oneCell')
theorem aggOk_cells (x : Int) (near : Nat → Nat) : aggOk (cellsI x near) = true := by simp [aggOk, cellsI, Value.oneCell']
def storeRow (v x : Value) : Sem Unit := Instr.storeAt 81 v x
theorem storeAt81 (v x : Value) : Instr.storeAt 81 v x = storeRow v x := rfl
theorem run_storeRow (W : World) (B : Nat) (cs : Array Value) (h : rowFree W B = true) (hz : aggOk cs = true) : (storeRow (.pointer (some ⟨B, 0, none⟩)) (.agg cs)).run Tryd.prog W = .ok () (W.setRow B cs) := by
  unfold rowFree at h
  unfold aggOk at hz
  cases ho : W.heap[B]? with
  | none => rw [ho] at h; cases h
  | some o =>
    cases o with
    | cells old t fr =>
      rw [ho] at h
      obtain ⟨f1, f2⟩ := fr
      have hf : f1 = 0 ∧ f2 = 0 := by
        split at h
        · rename_i heq; cases heq; exact ⟨rfl, rfl⟩
        · cases h
      obtain ⟨rfl, rfl⟩ := hf
      have e : old.size = 13 := by simpa using h
      obtain ⟨e2, e3⟩ := Bool.and_eq_true_iff.1 hz
      have e2 : cs.size = 13 := by simpa using e2
      have hi : (Tryd.prog.info? 81).map (·.size) = some cs.size := by rw [e2]; kernel_rfl
      unfold storeRow
      simp only [Instr.storeAt, Instr.sureAddr, Sem.run_bind, Sem.run_pure, Result.andThen_ok, run_storeVar_row W B t 81 old cs ho hi (by omega) e3]
    | _ => rw [ho] at h; cases h
attribute [local go_sem ↓ high] storeAt81
attribute [local go_sem] run_storeRow
/-- An edge more. -/
def addE (near : Nat → Nat) (a b : Nat) : Nat → Nat := fun v => if v = a then near v ||| 2 ^ b else if v = b then near v ||| 2 ^ a else near v
def edgesM (n : Nat) : (Nat → Nat) → List S48 → Option (Nat → Nat)
  | near, [] => some near
  | near, e :: l => if 0 ≤ e.f0 ∧ e.f0 < e.f1 ∧ e.f1 < n ∧ (near e.f0.toNat).testBit e.f1.toNat = false then edgesM n (addE near e.f0.toNat e.f1.toNat) l else none
def graphM (n : Int) (l : List S48) : Option Gr := if 1 ≤ n ∧ n ≤ 12 ∧ (l.length : Int) ≤ n * (n - 1) / 2 then (edgesM n.toNat (fun _ => 0) l).map (Gr.mk n.toNat) else none
theorem rowFree_of {W : World} {B : Nat} {cs : Array Value} {t : TypeId} (h : W.heap[B]? = some (.cells cs t)) (hs : cs.size = 13) : rowFree W B = true := by unfold rowFree; rw [h]; simp [hs]
theorem rowOk_any {W : World} {B : Nat} {cs : Array Value} {t : TypeId} (h : W.heap[B]? = some (.cells cs t)) (hs : cs.size = 13) : rowOk W B = true := by unfold rowOk; rw [h]; simp [hs]
theorem results57_at (tmps : Array Value) (W : World) (B : Nat) (cs : Array Value) (v : Value) (h : W.heap[B]? = some (.cells cs 81)) (hs : cs.size = 13) (h4 : tmps.getD 4 undef = .pointer (some ⟨B, 0, none⟩)) (h5 : tmps.getD 5 undef = v) :
    (results Tryd.f57 tmps).run Tryd.prog W = .ok (.tuple #[.agg cs, v]) W := by
  have e1 := run_load81 W B (rowOk_any h hs)
  rw [cellsAt_of h] at e1
  have e4 : tmps[4]?.getD undef = .pointer (some ⟨B, 0, none⟩) := by simpa using h4
  have e5 : tmps[5]?.getD undef = v := by simpa using h5
  simp [results, Tryd.results57, asAddr, e4, e5, e1]
theorem setRow_two {W : World} {b B : Nat} {old cs : Array Value} {t : TypeId} (h : W.heap[b]? = some (.cells old t)) (hb : B ≤ b) :
    (W.setRow b cs).heap[b]? = some (.cells cs t) ∧ (∀ k, k ≠ b → (W.setRow b cs).heap[k]? = W.heap[k]?) ∧ (W.setRow b cs).heap.size = W.heap.size ∧ Below B W (W.setRow b cs) :=
  ⟨setRow_heap W b old cs t _ h, fun k hk => setRow_other W b k cs hk, size_setRow _ _ _, below_setRow (Below.refl B W) hb cs⟩
theorem near_cellI (x : Int) (near : Nat → Nat) {W : World} {B : Nat} (h : W.heap[B]? = some (.cells (cellsI x near) 81)) (v : Nat) (hv : v < 12) : W.cell? ⟨B, 1 + v, none⟩ = some (.int .u64 ((near v : Nat) : Int)) := by
  unfold World.cell?
  rw [h]
  have : ∀ v, v < 12 → v = 0 ∨ v = 1 ∨ v = 2 ∨ v = 3 ∨ v = 4 ∨ v = 5 ∨ v = 6 ∨ v = 7 ∨ v = 8 ∨ v = 9 ∨ v = 10 ∨ v = 11 := by omega
  rcases this v hv with rfl | rfl | rfl | rfl | rfl | rfl | rfl | rfl | rfl | rfl | rfl | rfl <;> rfl
theorem two_cell {W : World} {b : Nat} {x y : Value} {t : TypeId} (h : W.heap[b]? = some (.cells #[x, y] t)) : W.cell? ⟨b, 0, none⟩ = some x ∧ W.cell? ⟨b, 1, none⟩ = some y := by
  unfold World.cell?; rw [h]; exact ⟨rfl, rfl⟩
theorem within_val (n lo hi : Int) (r : Bool) (hr : decide (lo ≤ n ∧ n ≤ hi) = r) (w : World) : Calls Tryd.prog 68 #[.int .i64 n, .int .i64 lo, .int .i64 hi] w fun e w' => e = .returned (.bool r) ∧ w' = w := by
  subst hr; exact (within_any n lo hi w).mono fun _ _ ⟨a, b⟩ => ⟨a, b.symm⟩
theorem has_val (s v : Nat) (r : Bool) (hr : s.testBit v = r) (hs : s < 2 ^ 64) (hv : v < 64) (w : World) : Calls Tryd.prog 71 #[.int .u64 s, .int .i64 v] w fun e w' => e = .returned (.bool r) ∧ w' = w := by
  subst hr; exact (has_any s v hs hv w).mono fun _ _ ⟨a, b⟩ => ⟨a, b.symm⟩
theorem cellsI_list (x : Int) (near : Nat → Nat) : cellsI x near = (Value.int .i64 x :: (List.range 12).map fun v => Value.int .u64 (near v : Nat)).toArray := rfl
theorem set_map {f : Nat → Value} (m a : Nat) (v : Value) : ((List.range m).map f).set a v = (List.range m).map (fun j => if j = a then v else f j) := by
  apply List.ext_getElem
  · simp
  · intro i h1 h2
    simp only [List.getElem_set, List.getElem_map, List.getElem_range]
    by_cases h : a = i
    · subst h; simp
    · rw [if_neg h, if_neg (fun e => h e.symm)]
theorem modify_cells {W : World} {G o : Nat} {cs : Array Value} {t : TypeId} {v : Value} (h : W.heap[G]? = some (.cells cs t)) : (W.setCell ⟨G, o, none⟩ v).heap[G]? = some (.cells (cs.setIfInBounds o v) t) := by
  obtain ⟨hlt, e⟩ := Array.getElem?_eq_some_iff.1 h
  show (W.heap.modify G _)[G]? = _
  rw [Array.getElem?_eq_getElem (by rw [Array.size_modify]; exact hlt), Array.getElem_modify_self, e]
  rfl
theorem addE_facts {W W' : World} {G B : Nat} {n : Int} {near : Nat → Nat} {a b : Nat} (hB : B ≤ G) (h1 : W.heap[G]? = some (.cells (cellsI n near) 81)) (ha : a < 12) (hb : b < 12) (hne : ¬ a = b) (hna : near a < 2 ^ 64) (hnb : near b < 2 ^ 64)
    (hh : W'.heap = ((W.setCell ⟨G, 1 + a, none⟩ (.int .u64 (bits .or .u64 (near a : Nat) (IntKind.u64.wrap (2 ^ b))))).setCell ⟨G, 1 + b, none⟩ (.int .u64 (bits .or .u64 (near b : Nat) (IntKind.u64.wrap (2 ^ a))))).heap)
    (ho : W'.os = W.os) (ht : W'.tape = W.tape) (hp : W'.output = W.output) :
    W'.heap[G]? = some (.cells (cellsI n (addE near a b)) 81) ∧ (∀ k, k ≠ G → W'.heap[k]? = W.heap[k]?) ∧ W'.heap.size = W.heap.size ∧ Below B W W' := by
  rw [M.u64_shl_one b (by omega), M.u64_shl_one a (by omega), M.nu_or _ _ hna (Nat.pow_lt_pow_right (by decide) (by omega)), M.nu_or _ _ hnb (Nat.pow_lt_pow_right (by decide) (by omega))] at hh
  have hs : ∀ k, k ≠ G → W'.heap[k]? = W.heap[k]? := fun k hk => by
    rw [hh]
    exact (Below.heap_setCell _ ⟨G, 1 + b, none⟩ _ k hk).trans (Below.heap_setCell W ⟨G, 1 + a, none⟩ _ k hk)
  have hz : W'.heap.size = W.heap.size := by rw [hh, size_setCell, size_setCell]
  refine ⟨?_, hs, hz, ⟨ho, ht, hp, by omega, fun k hk => hs k (by omega)⟩⟩
  rw [hh, modify_cells (modify_cells h1)]
  congr 2
  rw [cellsI_list, cellsI_list]
  simp only [List.setIfInBounds_toArray, Nat.add_comm 1, List.set_cons_succ, set_map]
  congr 2
  apply List.map_congr_left
  intro j _
  unfold addE
  by_cases h2 : j = b
  · subst h2; simp [show ¬ j = a from fun e => hne e.symm]
  · by_cases h3 : j = a
    · subst h3; simp [h2]
    · simp [h2, h3]
theorem addE_lt {near : Nat → Nat} {n a b : Nat} (h : ∀ v, near v < 2 ^ n) (ha : a < n) (hb : b < n) (v : Nat) : addE near a b v < 2 ^ n := by
  unfold addE
  split
  · exact Nat.or_lt_two_pow (h v) (Nat.pow_lt_pow_right (by decide) hb)
  · split
    · exact Nat.or_lt_two_pow (h v) (Nat.pow_lt_pow_right (by decide) ha)
    · exact h v
/-- A pair of a list that lies somewhere. -/
theorem pair_at {w : World} {A : Option Addr} {n : Nat} {xs : List S48} (h : Kd.C k48 w A n xs) (i : Nat) (hi : i < n) (hx : xs.length = n) : ∃ ad, A = some ad ∧ w.cell? (ad.add (i * 2)) = some (.int .i64 (xs.getD i z48).f0) ∧ w.cell? ⟨(ad.add (i * 2)).block, (ad.add (i * 2)).off + 1, none⟩ = some (.int .i64 (xs.getD i z48).f1) := by
  have := at_T48 h (i : Int) (by omega) (by omega)
  simpa [rd_T48] using this
/-- What newGraph leaves. -/
def newGraphPost (n : Int) (l : List S48) (w : World) (e : Ending) (w' : World) : Prop := ∃ x near b, e = .returned (.tuple #[.agg (cellsI x near), .bool b]) ∧
      ((graphM n l = none ∧ b = false) ∨ ∃ g, graphM n l = some g ∧ b = true ∧ cellsI x near = g.cells) ∧ Below w.heap.size w w'
set_option maxHeartbeats 4000000 in
set_option maxRecDepth 100000 in
theorem newGraph_any (n : Int) (A : Option Addr) (c : Nat) (l : List S48) (w : World) (hl : Kd.C k48 w A l.length l) (_ : l.length ≤ c) (hlen : l.length ≤ 9223372036854775807) (hn1 : -9223372036854775808 ≤ n) (hn2 : n ≤ 9223372036854775807) :
    Calls Tryd.prog 57 #[.int .i64 n, .slice A l.length c] w (newGraphPost n l w) := by
  refine (callsIn_wide (n := 9)).1 ?_
  refine callsIn_of_wp Tryd.func57 rfl trivial ?_
  simp only [Tryd.ntmps57, List.size_toArray, List.length_cons, List.length_nil, Nat.reduceAdd, Nat.reduceSub, Array.replicate_succ, Array.replicate_zero, List.push_toArray, List.append_toArray, List.nil_append, List.cons_append]
  have HL := Lib.hid hl
  clear hl
  have hrf : rowFree ((w.alloc (.cells #[.int .i64 0, .int .u64 0, .int .u64 0, .int .u64 0, .int .u64 0, .int .u64 0, .int .u64 0, .int .u64 0, .int .u64 0, .int .u64 0, .int .u64 0, .int .u64 0, .int .u64 0] 81)).alloc (.cells #[.int .i64 0, .int .u64 0, .int .u64 0, .int .u64 0, .int .u64 0, .int .u64 0, .int .u64 0, .int .u64 0, .int .u64 0, .int .u64 0, .int .u64 0, .int .u64 0, .int .u64 0] 81)) (w.heap.size + 1) = true := by
    unfold rowFree
    rw [show w.heap.size + 1 = (w.alloc (.cells #[.int .i64 0, .int .u64 0, .int .u64 0, .int .u64 0, .int .u64 0, .int .u64 0, .int .u64 0, .int .u64 0, .int .u64 0, .int .u64 0, .int .u64 0, .int .u64 0, .int .u64 0] 81)).heap.size by simp, World.alloc_heap_new]; rfl
  have hag : aggOk #[.int .i64 n, .int .u64 0, .int .u64 0, .int .u64 0, .int .u64 0, .int .u64 0, .int .u64 0, .int .u64 0, .int .u64 0, .int .u64 0, .int .u64 0, .int .u64 0, .int .u64 0] = true := aggOk_cells n (fun _ => 0)
  obtain ⟨f0, f1, f2, f3⟩ := lay2 w (.cells #[.int .i64 0, .int .u64 0, .int .u64 0, .int .u64 0, .int .u64 0, .int .u64 0, .int .u64 0, .int .u64 0, .int .u64 0, .int .u64 0, .int .u64 0, .int .u64 0, .int .u64 0] 81) (.cells #[.int .i64 0, .int .u64 0, .int .u64 0, .int .u64 0, .int .u64 0, .int .u64 0, .int .u64 0, .int .u64 0, .int .u64 0, .int .u64 0, .int .u64 0, .int .u64 0, .int .u64 0] 81)
  obtain ⟨y1, y2, y3, y4⟩ := setRow_two (B := w.heap.size) (cs := #[.int .i64 n, .int .u64 0, .int .u64 0, .int .u64 0, .int .u64 0, .int .u64 0, .int .u64 0, .int .u64 0, .int .u64 0, .int .u64 0, .int .u64 0, .int .u64 0, .int .u64 0]) f1 (by omega)
  have g0 := (y2 w.heap.size (by omega)).trans f0
  have bW := f3.trans y4
  rw [f2] at y3
  gi_wp2_with fail
  refine (callsIn_wide.2 (within_any n 1 12 _)).mono ?_
  rintro e w' ⟨rfl, rfl⟩
  generalize hW0 : (((w.alloc (Obj.cells #[Value.int IntKind.i64 0, Value.int IntKind.u64 0, Value.int IntKind.u64 0, Value.int IntKind.u64 0, Value.int IntKind.u64 0, Value.int IntKind.u64 0, Value.int IntKind.u64 0, Value.int IntKind.u64 0, Value.int IntKind.u64 0, Value.int IntKind.u64 0, Value.int IntKind.u64 0, Value.int IntKind.u64 0, Value.int IntKind.u64 0] 81)).alloc (Obj.cells #[Value.int IntKind.i64 0, Value.int IntKind.u64 0, Value.int IntKind.u64 0, Value.int IntKind.u64 0, Value.int IntKind.u64 0, Value.int IntKind.u64 0, Value.int IntKind.u64 0, Value.int IntKind.u64 0, Value.int IntKind.u64 0, Value.int IntKind.u64 0, Value.int IntKind.u64 0, Value.int IntKind.u64 0, Value.int IntKind.u64 0] 81)).setRow (w.heap.size + 1) #[Value.int IntKind.i64 n, Value.int IntKind.u64 0, Value.int IntKind.u64 0, Value.int IntKind.u64 0, Value.int IntKind.u64 0, Value.int IntKind.u64 0, Value.int IntKind.u64 0, Value.int IntKind.u64 0, Value.int IntKind.u64 0, Value.int IntKind.u64 0, Value.int IntKind.u64 0, Value.int IntKind.u64 0, Value.int IntKind.u64 0]) = W0 at g0 y1 y3 bW ⊢
  clear hW0 hrf f0 f1 f2 f3 y2 y4
  have r0 := rowFree_of g0 rfl
  have r1 := rowOk_any y1 rfl
  have r2 := cellsAt_of y1
  have r3 := aggOk_cells n (fun _ => 0)
  have g1 : W0.heap[w.heap.size + 1]? = some (.cells (cellsI n (fun _ => 0)) 81) := y1
  have HG0 := Lib.hid g0
  have HG1 := Lib.hid g1
  have HBW := Lib.hid bW
  clear g0 y1 g1 bW
  by_cases hin : 1 ≤ n ∧ n ≤ 12
  · have hdd : decide (1 ≤ n ∧ n ≤ 12) = true := by simpa using hin
    rw [hdd]
    have hq : (0 : Int) ≤ n * (n - 1) / 2 ∧ n * (n - 1) / 2 ≤ 66 := by
      obtain ⟨m, rfl⟩ : ∃ m : Nat, n = m := ⟨n.toNat, by omega⟩
      have : m ≤ 12 := by omega
      have : 1 ≤ m := by omega
      have : ∀ m : Nat, m < 13 → (0 : Int) ≤ (m : Int) * ((m : Int) - 1) / 2 ∧ (m : Int) * ((m : Int) - 1) / 2 ≤ 66 := by decide
      exact this m (by omega)
    gi_wp2_with fail
    · rename_i hlt
      obtain ⟨q1, q2, q3, q4⟩ := setRow_two (B := w.heap.size) (cs := #[.int .i64 n, .int .u64 0, .int .u64 0, .int .u64 0, .int .u64 0, .int .u64 0, .int .u64 0, .int .u64 0, .int .u64 0, .int .u64 0, .int .u64 0, .int .u64 0, .int .u64 0]) HG0.out (Nat.le_refl _)
      refine bodyPost_ret (results57_at _ _ w.heap.size #[.int .i64 n, .int .u64 0, .int .u64 0, .int .u64 0, .int .u64 0, .int .u64 0, .int .u64 0, .int .u64 0, .int .u64 0, .int .u64 0, .int .u64 0, .int .u64 0, .int .u64 0] (.bool false) q1 rfl rfl rfl) rfl ?_
      exact ⟨n, fun _ => 0, false, rfl, .inl ⟨by unfold graphM; rw [if_neg (by omega)], rfl⟩, HBW.out.trans q4⟩
    · rename_i hlt
      clear r0 r1 r2 r3 hag
      gi_loopg [27] l.length (fun k s27 W => ∃ (i : Nat) (near : Nat → Nat), s27 = .int .i64 (i : Int) ∧ i ≤ l.length ∧ l.length ≤ k + i ∧ W.heap[w.heap.size]? = some (.cells (cellsI 0 (fun _ => 0)) 81) ∧ W.heap[w.heap.size + 1]? = some (.cells (cellsI n near) 81) ∧
        (∀ v, near v < 2 ^ n.toNat) ∧ Below w.heap.size w W ∧ w.heap.size + 2 ≤ W.heap.size ∧ edgesM n.toNat (fun _ => 0) l = edgesM n.toNat near (l.drop i))
      case atStart => exact ⟨0, fun _ => 0, rfl, by omega, by omega, HG0.out, HG1.out, fun v => Nat.two_pow_pos _, HBW.out, by omega, rfl⟩
      case round =>
        obtain ⟨i, near, rfl, hi, hk, hg0, hg1, hnear, hB, hsz, hed⟩ := hrel
        have HG0 := Lib.hid hg0
        have HG1 := Lib.hid hg1
        have HN := Lib.hid hnear
        have HB := Lib.hid hB
        have HE := Lib.hid hed
        by_cases hil : i < l.length
        · obtain ⟨ad, rfl, c0, c1⟩ := pair_at (Kd.C_below HL.out HB.out) i hil rfl
          obtain ⟨e0, he0⟩ : ∃ e0, (l.getD i z48).f0 = e0 := ⟨_, rfl⟩
          obtain ⟨e1, he1⟩ : ∃ e1, (l.getD i z48).f1 = e1 := ⟨_, rfl⟩
          rw [he0] at c0
          rw [he1] at c1
          have r0 := rowFree_of hg0 rfl
          have r1 := rowOk_any hg1 rfl
          have r2 := cellsAt_of hg1
          have r3 := aggOk_cells n near
          have HE0 := Lib.hid he0
          have HE1 := Lib.hid he1
          clear hg0 hg1 hB hed hnear he0 he1
          gi_wp2_with fail
          obtain ⟨n0, n1, n2⟩ := lay1 wr (.cells #[.int .i64 e0, .int .i64 e1] 48)
          have g0 := (n2.block w.heap.size (by omega)).trans HG0.out
          have g1 := (n2.block (w.heap.size + 1) (by omega)).trans HG1.out
          have bW1 := HB.out.trans (n2.mono (B' := w.heap.size) (by omega))
          obtain ⟨b8, hb8⟩ : ∃ b8, wr.heap.size = b8 := ⟨_, rfl⟩
          generalize hW1 : wr.alloc (Obj.cells #[Value.int IntKind.i64 e0, Value.int IntKind.i64 e1] 48) = W1 at n0 n1 n2 g0 g1 bW1 ⊢
          clear hW1
          rw [hb8] at n0 n1 ⊢
          obtain ⟨d0, d1⟩ := two_cell n0
          have r0 := rowFree_of g0 rfl
          have r1 := rowOk_any g1 rfl
          have r2 := cellsAt_of g1
          have r3 := aggOk_cells n near
          have HG0 := Lib.hid g0
          have HG1 := Lib.hid g1
          have HB := Lib.hid bW1
          have HN0 := Lib.hid n0
          clear c0 c1 g0 g1 bW1 n0 n2
          have HH : ∀ W2 : World, W2.heap[w.heap.size]? = some (.cells (cellsI 0 (fun _ => 0)) 81) → Below w.heap.size w W2 → graphM n l = none → newGraphPost n l w (.returned (.tuple #[.agg (cellsI n near), .bool false])) (W2.setRow w.heap.size (cellsI n near)) := by
            intro W2 h1 h2 h3
            obtain ⟨q1, q2, q3, q4⟩ := setRow_two (B := w.heap.size) (cs := cellsI n near) h1 (Nat.le_refl _)
            exact ⟨n, near, false, rfl, .inl ⟨h3, rfl⟩, h2.trans q4⟩
          have hdr : l.drop i = l.getD i z48 :: l.drop (i + 1) := by
            rw [List.drop_eq_getElem_cons hil]; simp [List.getD_eq_getElem?_getD, List.getElem?_eq_getElem hil]
          have hstep : edgesM n.toNat (fun _ => 0) l = if 0 ≤ e0 ∧ e0 < e1 ∧ e1 < n ∧ (near e0.toNat).testBit e1.toNat = false then edgesM n.toNat (addE near e0.toNat e1.toNat) (l.drop (i + 1)) else none := by
            rw [HE.out, hdr, edgesM, HE0.out, HE1.out, show ((n.toNat : Nat) : Int) = n by omega]
          have HST := Lib.hid hstep
          clear hdr hstep
          have hfail : ¬(0 ≤ e0 ∧ e0 < e1 ∧ e1 < n ∧ (near e0.toNat).testBit e1.toNat = false) → graphM n l = none := by
            intro h
            unfold graphM
            rw [if_pos (by omega), HST.out, if_neg h]; rfl
          have HF := Lib.hid hfail
          clear hfail
          by_cases p1 : 1 ≤ e1 ∧ e1 ≤ n - 1
          · have P1 : decide (1 ≤ e1 ∧ e1 ≤ n - 1) = true := by simpa using p1
            by_cases p2 : 0 ≤ e0 ∧ e0 ≤ e1 - 1
            · have P2 : decide (0 ≤ e0 ∧ e0 ≤ e1 - 1) = true := by simpa using p2
              obtain ⟨a, rfl⟩ : ∃ a : Nat, e0 = a := ⟨e0.toNat, by omega⟩
              obtain ⟨b, rfl⟩ : ∃ b : Nat, e1 = b := ⟨e1.toNat, by omega⟩
              have ha12 : a < 12 := by omega
              have hb12 : b < 12 := by omega
              have ha0 : (0 : Int) ≤ (a : Int) := by omega
              have hb0 : (0 : Int) ≤ (b : Int) := by omega
              have ha1 : (a : Int) < 12 := by omega
              have hb1 : (b : Int) < 12 := by omega
              have HB64 : b < 64 := by omega
              have na := near_cellI n near HG1.out a ha12
              have nb := near_cellI n near HG1.out b hb12
              have HSM : Hid _ := Lib.hid (show near a < 2 ^ 64 from Nat.lt_of_lt_of_le (HN.out a) (Nat.pow_le_pow_right (by decide) (by omega)))
              have HSMb : Hid _ := Lib.hid (show near b < 2 ^ 64 from Nat.lt_of_lt_of_le (HN.out b) (Nat.pow_le_pow_right (by decide) (by omega)))
              cases P3 : (near a).testBit b with
              | true =>
                refine quiet_plain rfl (by kernel_rfl) (by kernel_rfl) ?_
                repeat (gi_big_quiet_step (first | (with_reducible exact CallsIn.quiet_of_same (callsIn_wide.2 (within_val (b : Int) 1 (n - 1) _ P1 _))) | (with_reducible exact CallsIn.quiet_of_same (callsIn_wide.2 (within_val (a : Int) 0 ((b : Int) - 1) _ P2 _))) | (with_reducible exact CallsIn.quiet_of_same (callsIn_wide.2 (has_val (near a) b _ P3 HSM.out HB64 _)))))
                refine wpQuietIn_nil ?_
                rintro _ ⟨nq, rfl⟩
                have g0 : (W1.drewN nq).heap[w.heap.size]? = some (.cells (cellsI 0 (fun _ => 0)) 81) := HG0.out
                have g1 : (W1.drewN nq).heap[w.heap.size + 1]? = some (.cells (cellsI n near) 81) := HG1.out
                have bW : Below w.heap.size w (W1.drewN nq) := HB.out.trans ⟨rfl, rfl, rfl, Nat.le_refl _, fun _ _ => rfl⟩
                clear r0 r1 r2
                generalize W1.drewN nq = W2 at g0 g1 bW ⊢
                have r0 := rowFree_of g0 rfl
                have r1 := rowOk_any g1 rfl
                have r2 := cellsAt_of g1
                have HG0 := Lib.hid g0
                have HBW2 := Lib.hid bW
                clear g0 g1 bW
                gi_wp2_with fail
                exact bodyPost_ret (results57_at _ _ w.heap.size (cellsI n near) (.bool false) (setRow_two HG0.out (Nat.le_refl _)).1 rfl rfl rfl) rfl (HH W2 HG0.out HBW2.out (HF.out (by rintro ⟨_, _, _, h⟩; simp [P3] at h)))
              | false =>
                refine quiet_plain rfl (by kernel_rfl) (by kernel_rfl) ?_
                repeat (gi_big_quiet_step (first | (with_reducible exact CallsIn.quiet_of_same (callsIn_wide.2 (within_val (b : Int) 1 (n - 1) _ P1 _))) | (with_reducible exact CallsIn.quiet_of_same (callsIn_wide.2 (within_val (a : Int) 0 ((b : Int) - 1) _ P2 _))) | (with_reducible exact CallsIn.quiet_of_same (callsIn_wide.2 (has_val (near a) b _ P3 HSM.out HB64 _)))))
                refine wpQuietIn_nil ?_
                rintro _ ⟨nq, rfl⟩
                have fa := one_frozen HG1.out (1 + a)
                have fb := one_frozen HG1.out (1 + b)
                gi_wp2_with fail
                have hmx : Tryd.prog.follows .mixedOrders = true := by kernel_rfl
                have hab : ¬ a = b := by omega
                have hba : ¬ b = a := by omega
                gi_region_with_o (fail)
                all_goals gi_wp2_with fail
                all_goals gi_region_with_o (fail)
                all_goals gi_wp2_with fail
                all_goals gi_roundg (l.length - (i + 1))
                all_goals first
                  | omega
                  | (refine ⟨i + 1, addE near a b, rfl, by omega, by omega, Eq.trans (?_ : _ = W1.heap[w.heap.size]?) HG0.out, ?_, fun v => addE_lt HN.out (by omega) (by omega) v, HB.out.trans ?_, (?_ : w.heap.size + 2 ≤ _), ?_⟩
                     · exact (addE_facts (W := W1) (n := n) (near := near) (B := w.heap.size) (G := w.heap.size + 1) (by omega) HG1.out ha12 hb12 hab HSM.out HSMb.out (by exact rfl) (by exact rfl) (by exact rfl) (by exact rfl)).2.1 _ (by omega)
                     · exact (addE_facts (W := W1) (n := n) (near := near) (B := w.heap.size) (G := w.heap.size + 1) (by omega) HG1.out ha12 hb12 hab HSM.out HSMb.out (by exact rfl) (by exact rfl) (by exact rfl) (by exact rfl)).1
                     · exact (addE_facts (W := W1) (n := n) (near := near) (B := w.heap.size) (G := w.heap.size + 1) (by omega) HG1.out ha12 hb12 hab HSM.out HSMb.out (by exact rfl) (by exact rfl) (by exact rfl) (by exact rfl)).2.2.2
                     · have hz : W1.heap.size ≤ _ := Nat.le_of_eq (addE_facts (W := W1) (n := n) (near := near) (B := w.heap.size) (G := w.heap.size + 1) (by omega) HG1.out ha12 hb12 hab HSM.out HSMb.out (by exact rfl) (by exact rfl) (by exact rfl) (by exact rfl)).2.2.1.symm
                       exact Nat.le_trans (by omega) hz
                     · have hx := HST.out
                       rw [if_pos ⟨by omega, by omega, by omega, by simpa using P3⟩] at hx
                       simpa using hx)
            · have P2 : decide (0 ≤ e0 ∧ e0 ≤ e1 - 1) = false := by simpa using p2
              refine quiet_plain rfl (by kernel_rfl) (by kernel_rfl) ?_
              repeat (gi_big_quiet_step (first | (with_reducible exact CallsIn.quiet_of_same (callsIn_wide.2 (within_val e1 1 (n - 1) _ P1 _))) | (with_reducible exact CallsIn.quiet_of_same (callsIn_wide.2 (within_val e0 0 (e1 - 1) _ P2 _)))))
              refine wpQuietIn_nil ?_
              rintro _ ⟨nq, rfl⟩
              have g0 : (W1.drewN nq).heap[w.heap.size]? = some (.cells (cellsI 0 (fun _ => 0)) 81) := HG0.out
              have g1 : (W1.drewN nq).heap[w.heap.size + 1]? = some (.cells (cellsI n near) 81) := HG1.out
              have bW : Below w.heap.size w (W1.drewN nq) := HB.out.trans ⟨rfl, rfl, rfl, Nat.le_refl _, fun _ _ => rfl⟩
              clear r0 r1 r2
              generalize W1.drewN nq = W2 at g0 g1 bW ⊢
              have r0 := rowFree_of g0 rfl
              have r1 := rowOk_any g1 rfl
              have r2 := cellsAt_of g1
              have HG0 := Lib.hid g0
              have HBW2 := Lib.hid bW
              clear g0 g1 bW
              gi_wp2_with fail
              exact bodyPost_ret (results57_at _ _ w.heap.size (cellsI n near) (.bool false) (setRow_two HG0.out (Nat.le_refl _)).1 rfl rfl rfl) rfl (HH W2 HG0.out HBW2.out (HF.out (by omega)))
          · have P1 : decide (1 ≤ e1 ∧ e1 ≤ n - 1) = false := by simpa using p1
            refine quiet_plain rfl (by kernel_rfl) (by kernel_rfl) ?_
            repeat (gi_big_quiet_step (first | (with_reducible exact CallsIn.quiet_of_same (callsIn_wide.2 (within_val e1 1 (n - 1) _ P1 _)))))
            refine wpQuietIn_nil ?_
            rintro _ ⟨nq, rfl⟩
            have g0 : (W1.drewN nq).heap[w.heap.size]? = some (.cells (cellsI 0 (fun _ => 0)) 81) := HG0.out
            have g1 : (W1.drewN nq).heap[w.heap.size + 1]? = some (.cells (cellsI n near) 81) := HG1.out
            have bW : Below w.heap.size w (W1.drewN nq) := HB.out.trans ⟨rfl, rfl, rfl, Nat.le_refl _, fun _ _ => rfl⟩
            clear r0 r1 r2
            generalize W1.drewN nq = W2 at g0 g1 bW ⊢
            have r0 := rowFree_of g0 rfl
            have r1 := rowOk_any g1 rfl
            have r2 := cellsAt_of g1
            have HG0 := Lib.hid g0
            have HBW2 := Lib.hid bW
            clear g0 g1 bW
            gi_wp2_with fail
            exact bodyPost_ret (results57_at _ _ w.heap.size (cellsI n near) (.bool false) (setRow_two HG0.out (Nat.le_refl _)).1 rfl rfl rfl) rfl (HH W2 HG0.out HBW2.out (HF.out (by omega)))
        · have : i = l.length := by omega
          subst this
          have r0 := rowFree_of hg0 rfl
          have r1 := rowOk_any hg1 rfl
          have r2 := cellsAt_of hg1
          have r3 := aggOk_cells n near
          clear hg0 hg1 hB hed hnear
          gi_wp2_with fail
          obtain ⟨q1, q2, q3, q4⟩ := setRow_two (B := w.heap.size) (cs := cellsI n near) HG0.out (Nat.le_refl _)
          refine bodyPost_ret (results57_at _ _ w.heap.size (cellsI n near) (.bool true) q1 rfl rfl rfl) rfl ?_
          have hx := HE.out
          rw [List.drop_length, edgesM] at hx
          refine ⟨n, near, true, rfl, .inr ⟨⟨n.toNat, near⟩, by unfold graphM; rw [if_pos (by omega), hx]; rfl, rfl, ?_⟩, HB.out.trans q4⟩
          have : ((n.toNat : Nat) : Int) = n := by omega
          simp only [cells_eq, this]
  · have hdd : decide (1 ≤ n ∧ n ≤ 12) = false := by simpa using hin
    rw [hdd]
    gi_wp2_with fail
    obtain ⟨q1, q2, q3, q4⟩ := setRow_two (B := w.heap.size) (cs := #[.int .i64 n, .int .u64 0, .int .u64 0, .int .u64 0, .int .u64 0, .int .u64 0, .int .u64 0, .int .u64 0, .int .u64 0, .int .u64 0, .int .u64 0, .int .u64 0, .int .u64 0]) HG0.out (Nat.le_refl _)
    refine bodyPost_ret (results57_at _ _ w.heap.size #[.int .i64 n, .int .u64 0, .int .u64 0, .int .u64 0, .int .u64 0, .int .u64 0, .int .u64 0, .int .u64 0, .int .u64 0, .int .u64 0, .int .u64 0, .int .u64 0, .int .u64 0] (.bool false) q1 rfl rfl rfl) rfl ?_
    exact ⟨n, fun _ => 0, false, rfl, .inl ⟨by unfold graphM; rw [if_neg (by omega)], rfl⟩, HBW.out.trans q4⟩
end Go.Proofs.YtpbeaaihdmfnlaaDoor.H

/- ### Wj -/
namespace Go.Proofs.YtpbeaaihdmfnlaaDoor.H
open Go Go.RowKit Go.Shelf Go.Proofs.YtpbeaaihdmfnlaaDoor.M Go.Proofs.YtpbeaaihdmfnlaaDoor.G Go.Proofs.YtpbeaaihdmfnlaaDoorW.PrintWords
attribute [local go_sem] Oper.semAt_some wide_fn
attribute [local go_sem ↓ high] loadAt81 storeAt81
attribute [local go_sem] rowOk_drew cellsAt_drew run_loadRow run_storeRow
/-- The set that a list is, from the i-th number on. -/
def setL (n : Nat) : Option Int → Nat → List Int → Option Nat
  | _, s, [] => some s
  | p, s, v :: l => if 0 ≤ v ∧ v < n ∧ (∀ x, p = some x → x < v) then setL n (some v) (s ||| 2 ^ v.toNat) l else none
def setM (n : Nat) (l : List Int) : Option Nat := setL n none 0 l
def setPost (n : Nat) (l : List Int) (w : World) (e : Ending) (w' : World) : Prop :=
  (match setM n l with
    | none => e = .returned (.tuple #[.int .u64 0, .bool false])
    | some s => e = .returned (.tuple #[.int .u64 (s : Nat), .bool true]) ∧ s < 2 ^ n) ∧ Below w.heap.size w w'
theorem int_at {w : World} {A : Option Addr} {n : Nat} {xs : List Int} (h : Kd.C (Kd.int .i64) w A n xs) (i : Nat) (hi : i < n) : ∃ ad, A = some ad ∧ w.cell? (ad.add i) = some (.int .i64 (xs.getD i 0)) := by
  obtain ⟨ad, c, e, _, hK, hc0⟩ := Kd.C_get h (0 : Int) (i : Int) (by omega) (by omega)
  have hc : ∀ j u, c[j]? = some u → w.cell? (ad.add ((i : Int).toNat * 1 + j)) = some u := hc0
  obtain rfl : c = [.int .i64 (xs.getD (i : Int).toNat 0)] := hK
  refine ⟨ad, e, ?_⟩
  have := hc 0 _ rfl
  simpa using this
set_option maxHeartbeats 4000000 in
set_option maxRecDepth 100000 in
theorem set_any (g : Gr) (hg : g.Ok) (A : Option Addr) (c : Nat) (l : List Int) (w : World) (hl : Kd.C (Kd.int .i64) w A l.length l) (_ : l.length ≤ c) (hlen : l.length ≤ 9223372036854775807) :
    Calls Tryd.prog 83 #[.agg g.cells, .slice A l.length c] w (setPost g.n l w) := by
  refine (callsIn_wide (n := 9)).1 ?_
  refine callsIn_of_wp Tryd.func83 rfl trivial ?_
  simp only [Tryd.ntmps83, List.size_toArray, List.length_cons, List.length_nil, Nat.reduceAdd, Nat.reduceSub, Array.replicate_succ, Array.replicate_zero, List.push_toArray, List.append_toArray, List.nil_append, List.cons_append]
  have hle := hg.le
  have hpos := hg.pos
  have HL := Lib.hid hl
  clear hl hg
  gi_wp2_with fail
  obtain ⟨f0, f1, f2⟩ := lay1 w (.cells g.cells 81)
  generalize w.alloc (.cells g.cells 81) = W0 at f0 f1 f2 ⊢
  gi_loopg [6, 11] l.length (fun k s6 s11 W => ∃ (i s : Nat), s6 = .int .u64 (s : Int) ∧ s11 = .int .i64 (i : Int) ∧ i ≤ l.length ∧ l.length ≤ k + i ∧ s < 2 ^ g.n ∧ W.heap[w.heap.size]? = some (.cells g.cells 81) ∧ Below w.heap.size w W ∧
      setM g.n l = setL g.n (if i = 0 then none else some (l.getD (i - 1) 0)) s (l.drop i))
  case atStart => exact ⟨0, 0, rfl, rfl, by omega, by omega, Nat.two_pow_pos _, f0, f2, by simp [setM]⟩
  case round =>
    obtain ⟨i, s, rfl, rfl, hi, hk, hs, hg0, hB, hset⟩ := hrel
    have hp12 : 2 ^ g.n ≤ 4096 := Nat.pow_le_pow_right (by decide) hle
    have hs12 : s < 4096 := by omega
    have HS := Lib.hid hs
    have HB := Lib.hid hB
    have HSE := Lib.hid hset
    have HG0 := Lib.hid hg0
    have cn : wr.cell? ⟨w.heap.size, 0, none⟩ = some (.int .i64 (g.n : Int)) := by unfold World.cell?; rw [hg0]; rfl
    by_cases hil : i < l.length
    · obtain ⟨ad, rfl, c0⟩ := int_at (Kd.C_below HL.out HB.out) i hil
      obtain ⟨v, hv⟩ : ∃ v, l.getD i 0 = v := ⟨_, rfl⟩
      rw [hv] at c0
      have HV := Lib.hid hv
      clear hs hB hset hg0 hv
      have hdr : l.drop i = v :: l.drop (i + 1) := by
        rw [List.drop_eq_getElem_cons hil, ← HV.out]; simp [List.getD_eq_getElem?_getD, List.getElem?_eq_getElem hil]
      have HDR := Lib.hid hdr
      clear hdr
      have HF : ∀ W' : World, Below w.heap.size w W' → setM g.n l = none → setPost g.n l w (.returned (.tuple #[.int .u64 0, .bool false])) W' := fun W' hb h => by
        unfold setPost; rw [h]; exact ⟨rfl, hb⟩
      by_cases hP : 0 ≤ v ∧ v ≤ (g.n : Int) - 1
      · have P1 : decide (0 ≤ v ∧ v ≤ (g.n : Int) - 1) = true := by simpa using hP
        obtain ⟨u, rfl⟩ : ∃ u : Nat, v = u := ⟨v.toNat, by omega⟩
        have hu0 : (0 : Int) ≤ (u : Int) := by omega
        have hu1 : (u : Int) < 12 := by omega
        have hun : u < g.n := by omega
        have go : (∀ x, (if i = 0 then none else some (l.getD (i - 1) 0)) = some x → x < (u : Int)) → setM g.n l = setL g.n (if i + 1 = 0 then none else some (l.getD (i + 1 - 1) 0)) (s ||| 2 ^ u) (l.drop (i + 1)) := by
          intro h
          rw [HSE.out, HDR.out, setL, if_pos ⟨by omega, by omega, h⟩]
          rw [if_neg (by omega), show i + 1 - 1 = i by omega, HV.out]
          rfl
        have HGo := Lib.hid go
        clear go
        have hor : bits .or .u64 (s : Int) (IntKind.u64.wrap (2 ^ u)) = ((s ||| 2 ^ u : Nat) : Int) := by
          rw [M.u64_shl_one u (by omega), M.nu_or s (2 ^ u) (by omega) (Nat.pow_lt_pow_right (by decide) (by omega))]
        have HOR := Lib.hid hor
        clear hor
        gi_wp2_with fail
        refine (callsIn_wide.2 (within_val u 0 ((g.n : Int) - 1) true P1 _)).mono ?_
        rintro e w' ⟨rfl, rfl⟩
        clear c0
        by_cases hi0 : i = 0
        · subst hi0
          gi_wp2_with fail
          rw [HOR.out]
          gi_roundg (l.length - 1)
          case measure => omega
          case rel => exact ⟨1, s ||| 2 ^ u, rfl, rfl, by omega, by omega, Nat.or_lt_two_pow HS.out (Nat.pow_lt_pow_right (by decide) hun), HG0.out, HB.out, HGo.out (fun x hx => by simp at hx)⟩
        · obtain ⟨j, rfl⟩ : ∃ j, i = j + 1 := ⟨i - 1, by omega⟩
          obtain ⟨ad', had, c1⟩ := int_at (Kd.C_below HL.out HB.out) j (by omega)
          cases had
          obtain ⟨p, hp⟩ : ∃ p, l.getD j 0 = p := ⟨_, rfl⟩
          rw [hp] at c1
          have HPp := Lib.hid hp
          clear hp
          by_cases hpv : (u : Int) ≤ p
          · gi_wp2_with fail
            refine bodyPost_ret (v := .tuple #[.int .u64 0, .bool false]) (results_tmp2 (t := 4) (u := 5) rfl _ _ _) rfl (HF _ HB.out ?_)
            rw [HSE.out, HDR.out, setL, if_neg]
            rintro ⟨_, _, h⟩
            have := h p (by rw [if_neg (by omega), show j + 1 - 1 = j by omega, HPp.out])
            omega
          · gi_wp2_with fail
            rw [HOR.out]
            gi_roundg (l.length - (j + 1 + 1))
            case measure => omega
            case rel => exact ⟨j + 1 + 1, s ||| 2 ^ u, rfl, by simp, by omega, by omega, Nat.or_lt_two_pow HS.out (Nat.pow_lt_pow_right (by decide) hun), HG0.out, HB.out, HGo.out (fun x hx => by rw [if_neg (by omega), show j + 1 - 1 = j by omega, HPp.out] at hx; cases hx; omega)⟩
      · have P1 : decide (0 ≤ v ∧ v ≤ (g.n : Int) - 1) = false := by simpa using hP
        gi_wp2_with fail
        refine (callsIn_wide.2 (within_val v 0 ((g.n : Int) - 1) false P1 _)).mono ?_
        rintro e w' ⟨rfl, rfl⟩
        gi_wp2_with fail
        refine bodyPost_ret (v := .tuple #[.int .u64 0, .bool false]) (results_tmp2 (t := 4) (u := 5) rfl _ _ _) rfl (HF _ HB.out ?_)
        rw [HSE.out, HDR.out, setL, if_neg]
        rintro ⟨_, _, _⟩
        omega
    · have : i = l.length := by omega
      subst this
      clear hs hB hset hg0
      gi_wp2_with fail
      refine bodyPost_ret (results_tmp2 rfl _ _ _) rfl ?_
      have hx := HSE.out
      rw [List.drop_length, setL] at hx
      unfold setPost
      rw [hx]
      exact ⟨⟨rfl, HS.out⟩, HB.out⟩
end Go.Proofs.YtpbeaaihdmfnlaaDoor.H
