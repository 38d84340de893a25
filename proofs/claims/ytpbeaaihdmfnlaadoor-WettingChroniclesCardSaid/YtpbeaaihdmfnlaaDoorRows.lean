/-
  NARROWER THAN 'FOR EVERY INPUT', by the rows' own cells (each row's printed sentence says how): WettingLeasts: laid · WettingHits: laid · WettingRenamed: laid · WettingOwn: laid · WettingChecks: laid · WettingOrders: laid · WettingFewests: laid · WettingUnions: laid · WettingCloses: laid · WettingSoaks: laid · WettingGrows: laid · WettingThresholds: laid · WettingChained: laid · WettingChronicles: laid.
  DERIVED. THE GIVEN ROWS OF THIS SEAT. 14 by the template 'for every input the law returns true; each argument reads behind the call as it read before'; 0 by the template 'total and deterministic' (their statements: YtpbeaaihdmfnlaaDoorTotals.lean).
  GIVEN WITH THE SEED: the statements are not yours to turn. If you find one false, say at which input.
  Laid BY PROGRAM, IN A SANDBOX (cutbox-rows.mjs): the forced cells as the released guide's own fill.sh prints them over the translation fc92a2a936717129… (all of the seat's roots in one cut). By AI agents, Wed Nov 11 2026. No macro, syntax, notation, axiom, sorry.
-/
import Derived.Test.YtpbeaaihdmfnlaaDoorChecked
import GoSem.Claim
import GoSem.ClaimJoined
import GoSem.ClaimMapViews
import Derived.JoinedTies
import Derived.KernelRfl
namespace Go.Proofs.YtpbeaaihdmfnlaaDoor
/- THE CELL 'sum', in the pinned program and in every row, IS THE sha256 OF THE DUMP (.gsa) THAT YtpbeaaihdmfnlaaDoorProg.lean LOADS. Nothing in Lean hashes anything: it is a label: what it is worth is what the hold of that sum in a sandbox is worth. -/
noncomputable def Tryd.pinned : Pinned := { name := "ytpbeaaihdmfnlaadoor", sum := "fc92a2a936717129085d6fc98b434fe200ef403d47437e070013fb4efe8a432a", checked := Tryd.checked }
namespace Rows
def none {H : Type} : Left H := { results := [], args := [] }

/- WHAT THE LISTED PACKAGE-LEVEL VARIABLES READ AS WHEN THE CALL BEGINS. Each datum BY PROGRAM (the guide's laid-datum.mjs) off the statement by which the dump's own 'gosem.cut.vars' lays the variable. In a bare row this is a premise. The card (YtpbeaaihdmfnlaaDoorCards.lean) ties it to the program's text. -/
def laid_math_bits_deBruijn32tab {H : Type} : DataW H := .agg [.lit (.int .u8 0), .lit (.int .u8 1), .lit (.int .u8 28), .lit (.int .u8 2), .lit (.int .u8 29), .lit (.int .u8 14), .lit (.int .u8 24), .lit (.int .u8 3), .lit (.int .u8 30), .lit (.int .u8 22), .lit (.int .u8 20), .lit (.int .u8 15), .lit (.int .u8 25), .lit (.int .u8 17), .lit (.int .u8 4), .lit (.int .u8 8), .lit (.int .u8 31), .lit (.int .u8 27), .lit (.int .u8 13), .lit (.int .u8 23), .lit (.int .u8 21), .lit (.int .u8 19), .lit (.int .u8 16), .lit (.int .u8 7), .lit (.int .u8 26), .lit (.int .u8 12), .lit (.int .u8 18), .lit (.int .u8 6), .lit (.int .u8 11), .lit (.int .u8 5), .lit (.int .u8 10), .lit (.int .u8 9)]
def laid_math_bits_deBruijn64tab {H : Type} : DataW H := .agg [.lit (.int .u8 0), .lit (.int .u8 1), .lit (.int .u8 56), .lit (.int .u8 2), .lit (.int .u8 57), .lit (.int .u8 49), .lit (.int .u8 28), .lit (.int .u8 3), .lit (.int .u8 61), .lit (.int .u8 58), .lit (.int .u8 42), .lit (.int .u8 50), .lit (.int .u8 38), .lit (.int .u8 29), .lit (.int .u8 17), .lit (.int .u8 4), .lit (.int .u8 62), .lit (.int .u8 47), .lit (.int .u8 59), .lit (.int .u8 36), .lit (.int .u8 45), .lit (.int .u8 43), .lit (.int .u8 51), .lit (.int .u8 22), .lit (.int .u8 53), .lit (.int .u8 39), .lit (.int .u8 33), .lit (.int .u8 30), .lit (.int .u8 24), .lit (.int .u8 18), .lit (.int .u8 12), .lit (.int .u8 5), .lit (.int .u8 63), .lit (.int .u8 55), .lit (.int .u8 48), .lit (.int .u8 27), .lit (.int .u8 60), .lit (.int .u8 41), .lit (.int .u8 37), .lit (.int .u8 16), .lit (.int .u8 46), .lit (.int .u8 35), .lit (.int .u8 44), .lit (.int .u8 21), .lit (.int .u8 52), .lit (.int .u8 32), .lit (.int .u8 23), .lit (.int .u8 11), .lit (.int .u8 54), .lit (.int .u8 26), .lit (.int .u8 40), .lit (.int .u8 15), .lit (.int .u8 34), .lit (.int .u8 20), .lit (.int .u8 31), .lit (.int .u8 10), .lit (.int .u8 25), .lit (.int .u8 14), .lit (.int .u8 19), .lit (.int .u8 9), .lit (.int .u8 13), .lit (.int .u8 8), .lit (.int .u8 7), .lit (.int .u8 6)]

/-- 'numnahlaw06.WettingLeasts': WHATEVER THE INPUT: true; the input reads as it did. -/
def wettingLeastsSpec : ChangeSpec := { name := "wettingLeasts", fn := fun _ => fun
  | [d1, d2] => { results := [.lit (.bool true)], args := [d1, d2] }
  | _ => none }
def wettingLeastsRow : OpenClaim := { program := "ytpbeaaihdmfnlaadoor", sum := "fc92a2a936717129085d6fc98b434fe200ef403d47437e070013fb4efe8a432a", func := "numnah/numnahlaw06.WettingLeasts", spec := "wettingLeasts", unfollowed := true, recurses := true, named := ["math/bits.deBruijn32tab", "math/bits.deBruijn64tab"], apart := false, laid := [("math/bits.deBruijn32tab", laid_math_bits_deBruijn32tab), ("math/bits.deBruijn64tab", laid_math_bits_deBruijn64tab)] }
def WettingLeastsSaid : Prop := wettingLeastsRow.holds Tryd.pinned (OpenSpec.ofChange wettingLeastsSpec)

/-- ITS FALSE NEIGHBOUR: 'it returns false'. Refute it at one input. -/
def wettingLeastsWrong : ChangeSpec := { name := "wettingLeasts", fn := fun _ => fun
  | [d1, d2] => { results := [.lit (.bool false)], args := [d1, d2] }
  | _ => none }
def WettingLeastsWrongFalsely : Prop := wettingLeastsRow.holds Tryd.pinned (OpenSpec.ofChange wettingLeastsWrong)

/-- 'numnahlaw06.WettingHits': WHATEVER THE INPUT: true; the input reads as it did. -/
def wettingHitsSpec : ChangeSpec := { name := "wettingHits", fn := fun _ => fun
  | [d1, d2, d3] => { results := [.lit (.bool true)], args := [d1, d2, d3] }
  | _ => none }
def wettingHitsRow : OpenClaim := { program := "ytpbeaaihdmfnlaadoor", sum := "fc92a2a936717129085d6fc98b434fe200ef403d47437e070013fb4efe8a432a", func := "numnah/numnahlaw06.WettingHits", spec := "wettingHits", unfollowed := true, recurses := true, named := ["math/bits.deBruijn32tab", "math/bits.deBruijn64tab"], apart := false, laid := [("math/bits.deBruijn32tab", laid_math_bits_deBruijn32tab), ("math/bits.deBruijn64tab", laid_math_bits_deBruijn64tab)] }
def WettingHitsSaid : Prop := wettingHitsRow.holds Tryd.pinned (OpenSpec.ofChange wettingHitsSpec)

/-- ITS FALSE NEIGHBOUR: 'it returns false'. Refute it at one input. -/
def wettingHitsWrong : ChangeSpec := { name := "wettingHits", fn := fun _ => fun
  | [d1, d2, d3] => { results := [.lit (.bool false)], args := [d1, d2, d3] }
  | _ => none }
def WettingHitsWrongFalsely : Prop := wettingHitsRow.holds Tryd.pinned (OpenSpec.ofChange wettingHitsWrong)

/-- 'numnahlaw06.WettingRenamed': WHATEVER THE INPUT: true; the input reads as it did. -/
def wettingRenamedSpec : ChangeSpec := { name := "wettingRenamed", fn := fun _ => fun
  | [d1, d2, d3] => { results := [.lit (.bool true)], args := [d1, d2, d3] }
  | _ => none }
def wettingRenamedRow : OpenClaim := { program := "ytpbeaaihdmfnlaadoor", sum := "fc92a2a936717129085d6fc98b434fe200ef403d47437e070013fb4efe8a432a", func := "numnah/numnahlaw06.WettingRenamed", spec := "wettingRenamed", unfollowed := true, recurses := true, named := ["math/bits.deBruijn32tab", "math/bits.deBruijn64tab"], apart := false, laid := [("math/bits.deBruijn32tab", laid_math_bits_deBruijn32tab), ("math/bits.deBruijn64tab", laid_math_bits_deBruijn64tab)] }
def WettingRenamedSaid : Prop := wettingRenamedRow.holds Tryd.pinned (OpenSpec.ofChange wettingRenamedSpec)

/-- ITS FALSE NEIGHBOUR: 'it returns false'. Refute it at one input. -/
def wettingRenamedWrong : ChangeSpec := { name := "wettingRenamed", fn := fun _ => fun
  | [d1, d2, d3] => { results := [.lit (.bool false)], args := [d1, d2, d3] }
  | _ => none }
def WettingRenamedWrongFalsely : Prop := wettingRenamedRow.holds Tryd.pinned (OpenSpec.ofChange wettingRenamedWrong)

/-- 'numnahlaw06.WettingOwn': WHATEVER THE INPUT: true; the input reads as it did. -/
def wettingOwnSpec : ChangeSpec := { name := "wettingOwn", fn := fun _ => fun
  | [d1, d2, d3] => { results := [.lit (.bool true)], args := [d1, d2, d3] }
  | _ => none }
def wettingOwnRow : OpenClaim := { program := "ytpbeaaihdmfnlaadoor", sum := "fc92a2a936717129085d6fc98b434fe200ef403d47437e070013fb4efe8a432a", func := "numnah/numnahlaw06.WettingOwn", spec := "wettingOwn", unfollowed := true, recurses := true, named := ["math/bits.deBruijn32tab", "math/bits.deBruijn64tab"], apart := false, laid := [("math/bits.deBruijn32tab", laid_math_bits_deBruijn32tab), ("math/bits.deBruijn64tab", laid_math_bits_deBruijn64tab)] }
def WettingOwnSaid : Prop := wettingOwnRow.holds Tryd.pinned (OpenSpec.ofChange wettingOwnSpec)

/-- ITS FALSE NEIGHBOUR: 'it returns false'. Refute it at one input. -/
def wettingOwnWrong : ChangeSpec := { name := "wettingOwn", fn := fun _ => fun
  | [d1, d2, d3] => { results := [.lit (.bool false)], args := [d1, d2, d3] }
  | _ => none }
def WettingOwnWrongFalsely : Prop := wettingOwnRow.holds Tryd.pinned (OpenSpec.ofChange wettingOwnWrong)

/-- 'numnahlaw06.WettingChecks': WHATEVER THE INPUT: true; the input reads as it did. -/
def wettingChecksSpec : ChangeSpec := { name := "wettingChecks", fn := fun _ => fun
  | [d1, d2, d3] => { results := [.lit (.bool true)], args := [d1, d2, d3] }
  | _ => none }
def wettingChecksRow : OpenClaim := { program := "ytpbeaaihdmfnlaadoor", sum := "fc92a2a936717129085d6fc98b434fe200ef403d47437e070013fb4efe8a432a", func := "numnah/numnahlaw06.WettingChecks", spec := "wettingChecks", unfollowed := true, recurses := true, named := ["math/bits.deBruijn32tab", "math/bits.deBruijn64tab"], apart := false, laid := [("math/bits.deBruijn32tab", laid_math_bits_deBruijn32tab), ("math/bits.deBruijn64tab", laid_math_bits_deBruijn64tab)] }
def WettingChecksSaid : Prop := wettingChecksRow.holds Tryd.pinned (OpenSpec.ofChange wettingChecksSpec)

/-- ITS FALSE NEIGHBOUR: 'it returns false'. Refute it at one input. -/
def wettingChecksWrong : ChangeSpec := { name := "wettingChecks", fn := fun _ => fun
  | [d1, d2, d3] => { results := [.lit (.bool false)], args := [d1, d2, d3] }
  | _ => none }
def WettingChecksWrongFalsely : Prop := wettingChecksRow.holds Tryd.pinned (OpenSpec.ofChange wettingChecksWrong)

/-- 'numnahlaw06.WettingOrders': WHATEVER THE INPUT: true; the input reads as it did. -/
def wettingOrdersSpec : ChangeSpec := { name := "wettingOrders", fn := fun _ => fun
  | [d1, d2, d3] => { results := [.lit (.bool true)], args := [d1, d2, d3] }
  | _ => none }
def wettingOrdersRow : OpenClaim := { program := "ytpbeaaihdmfnlaadoor", sum := "fc92a2a936717129085d6fc98b434fe200ef403d47437e070013fb4efe8a432a", func := "numnah/numnahlaw06.WettingOrders", spec := "wettingOrders", unfollowed := true, recurses := true, named := ["math/bits.deBruijn32tab", "math/bits.deBruijn64tab"], apart := false, laid := [("math/bits.deBruijn32tab", laid_math_bits_deBruijn32tab), ("math/bits.deBruijn64tab", laid_math_bits_deBruijn64tab)] }
def WettingOrdersSaid : Prop := wettingOrdersRow.holds Tryd.pinned (OpenSpec.ofChange wettingOrdersSpec)

/-- ITS FALSE NEIGHBOUR: 'it returns false'. Refute it at one input. -/
def wettingOrdersWrong : ChangeSpec := { name := "wettingOrders", fn := fun _ => fun
  | [d1, d2, d3] => { results := [.lit (.bool false)], args := [d1, d2, d3] }
  | _ => none }
def WettingOrdersWrongFalsely : Prop := wettingOrdersRow.holds Tryd.pinned (OpenSpec.ofChange wettingOrdersWrong)

/-- 'numnahlaw06.WettingFewests': WHATEVER THE INPUT: true; the input reads as it did. -/
def wettingFewestsSpec : ChangeSpec := { name := "wettingFewests", fn := fun _ => fun
  | [d1, d2, d3] => { results := [.lit (.bool true)], args := [d1, d2, d3] }
  | _ => none }
def wettingFewestsRow : OpenClaim := { program := "ytpbeaaihdmfnlaadoor", sum := "fc92a2a936717129085d6fc98b434fe200ef403d47437e070013fb4efe8a432a", func := "numnah/numnahlaw06.WettingFewests", spec := "wettingFewests", unfollowed := true, recurses := true, named := ["math/bits.deBruijn32tab", "math/bits.deBruijn64tab"], apart := false, laid := [("math/bits.deBruijn32tab", laid_math_bits_deBruijn32tab), ("math/bits.deBruijn64tab", laid_math_bits_deBruijn64tab)] }
def WettingFewestsSaid : Prop := wettingFewestsRow.holds Tryd.pinned (OpenSpec.ofChange wettingFewestsSpec)

/-- ITS FALSE NEIGHBOUR: 'it returns false'. Refute it at one input. -/
def wettingFewestsWrong : ChangeSpec := { name := "wettingFewests", fn := fun _ => fun
  | [d1, d2, d3] => { results := [.lit (.bool false)], args := [d1, d2, d3] }
  | _ => none }
def WettingFewestsWrongFalsely : Prop := wettingFewestsRow.holds Tryd.pinned (OpenSpec.ofChange wettingFewestsWrong)

/-- 'numnahlaw06.WettingUnions': WHATEVER THE INPUT: true; the input reads as it did. -/
def wettingUnionsSpec : ChangeSpec := { name := "wettingUnions", fn := fun _ => fun
  | [d1, d2, d3] => { results := [.lit (.bool true)], args := [d1, d2, d3] }
  | _ => none }
def wettingUnionsRow : OpenClaim := { program := "ytpbeaaihdmfnlaadoor", sum := "fc92a2a936717129085d6fc98b434fe200ef403d47437e070013fb4efe8a432a", func := "numnah/numnahlaw06.WettingUnions", spec := "wettingUnions", unfollowed := true, recurses := true, named := ["math/bits.deBruijn32tab", "math/bits.deBruijn64tab"], apart := false, laid := [("math/bits.deBruijn32tab", laid_math_bits_deBruijn32tab), ("math/bits.deBruijn64tab", laid_math_bits_deBruijn64tab)] }
def WettingUnionsSaid : Prop := wettingUnionsRow.holds Tryd.pinned (OpenSpec.ofChange wettingUnionsSpec)

/-- ITS FALSE NEIGHBOUR: 'it returns false'. Refute it at one input. -/
def wettingUnionsWrong : ChangeSpec := { name := "wettingUnions", fn := fun _ => fun
  | [d1, d2, d3] => { results := [.lit (.bool false)], args := [d1, d2, d3] }
  | _ => none }
def WettingUnionsWrongFalsely : Prop := wettingUnionsRow.holds Tryd.pinned (OpenSpec.ofChange wettingUnionsWrong)

/-- 'numnahlaw06.WettingCloses': WHATEVER THE INPUT: true; the input reads as it did. -/
def wettingClosesSpec : ChangeSpec := { name := "wettingCloses", fn := fun _ => fun
  | [d1, d2, d3] => { results := [.lit (.bool true)], args := [d1, d2, d3] }
  | _ => none }
def wettingClosesRow : OpenClaim := { program := "ytpbeaaihdmfnlaadoor", sum := "fc92a2a936717129085d6fc98b434fe200ef403d47437e070013fb4efe8a432a", func := "numnah/numnahlaw06.WettingCloses", spec := "wettingCloses", unfollowed := true, recurses := true, named := ["math/bits.deBruijn32tab", "math/bits.deBruijn64tab"], apart := false, laid := [("math/bits.deBruijn32tab", laid_math_bits_deBruijn32tab), ("math/bits.deBruijn64tab", laid_math_bits_deBruijn64tab)] }
def WettingClosesSaid : Prop := wettingClosesRow.holds Tryd.pinned (OpenSpec.ofChange wettingClosesSpec)

/-- ITS FALSE NEIGHBOUR: 'it returns false'. Refute it at one input. -/
def wettingClosesWrong : ChangeSpec := { name := "wettingCloses", fn := fun _ => fun
  | [d1, d2, d3] => { results := [.lit (.bool false)], args := [d1, d2, d3] }
  | _ => none }
def WettingClosesWrongFalsely : Prop := wettingClosesRow.holds Tryd.pinned (OpenSpec.ofChange wettingClosesWrong)

/-- 'numnahlaw06.WettingSoaks': WHATEVER THE INPUT: true; the input reads as it did. -/
def wettingSoaksSpec : ChangeSpec := { name := "wettingSoaks", fn := fun _ => fun
  | [d1, d2, d3] => { results := [.lit (.bool true)], args := [d1, d2, d3] }
  | _ => none }
def wettingSoaksRow : OpenClaim := { program := "ytpbeaaihdmfnlaadoor", sum := "fc92a2a936717129085d6fc98b434fe200ef403d47437e070013fb4efe8a432a", func := "numnah/numnahlaw06.WettingSoaks", spec := "wettingSoaks", unfollowed := true, recurses := true, named := ["math/bits.deBruijn32tab", "math/bits.deBruijn64tab"], apart := false, laid := [("math/bits.deBruijn32tab", laid_math_bits_deBruijn32tab), ("math/bits.deBruijn64tab", laid_math_bits_deBruijn64tab)] }
def WettingSoaksSaid : Prop := wettingSoaksRow.holds Tryd.pinned (OpenSpec.ofChange wettingSoaksSpec)

/-- ITS FALSE NEIGHBOUR: 'it returns false'. Refute it at one input. -/
def wettingSoaksWrong : ChangeSpec := { name := "wettingSoaks", fn := fun _ => fun
  | [d1, d2, d3] => { results := [.lit (.bool false)], args := [d1, d2, d3] }
  | _ => none }
def WettingSoaksWrongFalsely : Prop := wettingSoaksRow.holds Tryd.pinned (OpenSpec.ofChange wettingSoaksWrong)

/-- 'numnahlaw06.WettingGrows': WHATEVER THE INPUT: true; the input reads as it did. -/
def wettingGrowsSpec : ChangeSpec := { name := "wettingGrows", fn := fun _ => fun
  | [d1, d2, d3] => { results := [.lit (.bool true)], args := [d1, d2, d3] }
  | _ => none }
def wettingGrowsRow : OpenClaim := { program := "ytpbeaaihdmfnlaadoor", sum := "fc92a2a936717129085d6fc98b434fe200ef403d47437e070013fb4efe8a432a", func := "numnah/numnahlaw06.WettingGrows", spec := "wettingGrows", unfollowed := true, recurses := true, named := ["math/bits.deBruijn32tab", "math/bits.deBruijn64tab"], apart := false, laid := [("math/bits.deBruijn32tab", laid_math_bits_deBruijn32tab), ("math/bits.deBruijn64tab", laid_math_bits_deBruijn64tab)] }
def WettingGrowsSaid : Prop := wettingGrowsRow.holds Tryd.pinned (OpenSpec.ofChange wettingGrowsSpec)

/-- ITS FALSE NEIGHBOUR: 'it returns false'. Refute it at one input. -/
def wettingGrowsWrong : ChangeSpec := { name := "wettingGrows", fn := fun _ => fun
  | [d1, d2, d3] => { results := [.lit (.bool false)], args := [d1, d2, d3] }
  | _ => none }
def WettingGrowsWrongFalsely : Prop := wettingGrowsRow.holds Tryd.pinned (OpenSpec.ofChange wettingGrowsWrong)

/-- 'numnahlaw06.WettingThresholds': WHATEVER THE INPUT: true; the input reads as it did. -/
def wettingThresholdsSpec : ChangeSpec := { name := "wettingThresholds", fn := fun _ => fun
  | [d1, d2, d3] => { results := [.lit (.bool true)], args := [d1, d2, d3] }
  | _ => none }
def wettingThresholdsRow : OpenClaim := { program := "ytpbeaaihdmfnlaadoor", sum := "fc92a2a936717129085d6fc98b434fe200ef403d47437e070013fb4efe8a432a", func := "numnah/numnahlaw06.WettingThresholds", spec := "wettingThresholds", unfollowed := true, recurses := true, named := ["math/bits.deBruijn32tab", "math/bits.deBruijn64tab"], apart := false, laid := [("math/bits.deBruijn32tab", laid_math_bits_deBruijn32tab), ("math/bits.deBruijn64tab", laid_math_bits_deBruijn64tab)] }
def WettingThresholdsSaid : Prop := wettingThresholdsRow.holds Tryd.pinned (OpenSpec.ofChange wettingThresholdsSpec)

/-- ITS FALSE NEIGHBOUR: 'it returns false'. Refute it at one input. -/
def wettingThresholdsWrong : ChangeSpec := { name := "wettingThresholds", fn := fun _ => fun
  | [d1, d2, d3] => { results := [.lit (.bool false)], args := [d1, d2, d3] }
  | _ => none }
def WettingThresholdsWrongFalsely : Prop := wettingThresholdsRow.holds Tryd.pinned (OpenSpec.ofChange wettingThresholdsWrong)

/-- 'numnahlaw06.WettingChained': WHATEVER THE INPUT: true; the input reads as it did. -/
def wettingChainedSpec : ChangeSpec := { name := "wettingChained", fn := fun _ => fun
  | [d1, d2, d3] => { results := [.lit (.bool true)], args := [d1, d2, d3] }
  | _ => none }
def wettingChainedRow : OpenClaim := { program := "ytpbeaaihdmfnlaadoor", sum := "fc92a2a936717129085d6fc98b434fe200ef403d47437e070013fb4efe8a432a", func := "numnah/numnahlaw06.WettingChained", spec := "wettingChained", unfollowed := true, recurses := true, named := ["math/bits.deBruijn32tab", "math/bits.deBruijn64tab"], apart := false, laid := [("math/bits.deBruijn32tab", laid_math_bits_deBruijn32tab), ("math/bits.deBruijn64tab", laid_math_bits_deBruijn64tab)] }
def WettingChainedSaid : Prop := wettingChainedRow.holds Tryd.pinned (OpenSpec.ofChange wettingChainedSpec)

/-- ITS FALSE NEIGHBOUR: 'it returns false'. Refute it at one input. -/
def wettingChainedWrong : ChangeSpec := { name := "wettingChained", fn := fun _ => fun
  | [d1, d2, d3] => { results := [.lit (.bool false)], args := [d1, d2, d3] }
  | _ => none }
def WettingChainedWrongFalsely : Prop := wettingChainedRow.holds Tryd.pinned (OpenSpec.ofChange wettingChainedWrong)

/-- 'numnahlaw06.WettingChronicles': WHATEVER THE INPUT: true; the input reads as it did. -/
def wettingChroniclesSpec : ChangeSpec := { name := "wettingChronicles", fn := fun _ => fun
  | [d1, d2, d3] => { results := [.lit (.bool true)], args := [d1, d2, d3] }
  | _ => none }
def wettingChroniclesRow : OpenClaim := { program := "ytpbeaaihdmfnlaadoor", sum := "fc92a2a936717129085d6fc98b434fe200ef403d47437e070013fb4efe8a432a", func := "numnah/numnahlaw06.WettingChronicles", spec := "wettingChronicles", unfollowed := true, recurses := true, named := ["math/bits.deBruijn32tab", "math/bits.deBruijn64tab"], apart := false, laid := [("math/bits.deBruijn32tab", laid_math_bits_deBruijn32tab), ("math/bits.deBruijn64tab", laid_math_bits_deBruijn64tab)] }
def WettingChroniclesSaid : Prop := wettingChroniclesRow.holds Tryd.pinned (OpenSpec.ofChange wettingChroniclesSpec)

/-- ITS FALSE NEIGHBOUR: 'it returns false'. Refute it at one input. -/
def wettingChroniclesWrong : ChangeSpec := { name := "wettingChronicles", fn := fun _ => fun
  | [d1, d2, d3] => { results := [.lit (.bool false)], args := [d1, d2, d3] }
  | _ => none }
def WettingChroniclesWrongFalsely : Prop := wettingChroniclesRow.holds Tryd.pinned (OpenSpec.ofChange wettingChroniclesWrong)

/- THE SECOND FORM. 'bulk': how many values and letters a reading holds, each counted each time it is reached (what is shared counts as often as it is met; a slice's spare places count too). A statement '..UptoSaid' is the law's where the arguments, and the package variables that the reading takes, are together of bulk at most 1048576: NARROWER than '..Said'. Prove '..Said' where nothing that the law and all that it calls make is longer than what came in: it says more and counts as full. Else prove '..UptoSaid'. A law counts once. -/
mutual
def uptoBulk {H : Type} : DataW H → Nat
  | .lit (.string bytes) => bytes.length + 1
  | .lit _ => 1
  | .nil => 1
  | .ptr d => uptoBulk d + 1
  | .slice elems spare => uptoBulkAll elems + uptoBulkAll spare + 1
  | .agg parts => uptoBulkAll parts + 1
  | .iface _ d => uptoBulk d + 1
  | .map entries => uptoBulkEntries entries + 1
  | .held _ => 1
def uptoBulkAll {H : Type} : List (DataW H) → Nat
  | [] => 0
  | d :: r => uptoBulk d + uptoBulkAll r
def uptoBulkEntries {H : Type} : List (Lit × DataW H) → Nat
  | [] => 0
  | x :: r => uptoBulkEntry x + uptoBulkEntries r
def uptoBulkEntry {H : Type} : Lit × DataW H → Nat
  | (.string bytes, d) => bytes.length + uptoBulk d + 1
  | (_, d) => uptoBulk d + 1
 end
def uptoSmall : (H : Type) → List (DataW H) → Bool := fun _ ds => decide (uptoBulkAll ds ≤ 1048576)
def OpenSpec.upto (s : _root_.Go.ChangeSpec) : _root_.Go.OpenSpec := { _root_.Go.OpenSpec.ofChange s with cond := some uptoSmall }

/-- 'numnahlaw06.WettingLeasts', WHERE WHAT IT READS IS OF BULK AT MOST 1048576: true; the input reads as it did. -/
def wettingLeastsUptoRow : OpenClaim := { program := "ytpbeaaihdmfnlaadoor", sum := "fc92a2a936717129085d6fc98b434fe200ef403d47437e070013fb4efe8a432a", func := "numnah/numnahlaw06.WettingLeasts", spec := "wettingLeasts", unfollowed := true, recurses := true, named := ["math/bits.deBruijn32tab", "math/bits.deBruijn64tab"], apart := false, laid := [("math/bits.deBruijn32tab", laid_math_bits_deBruijn32tab), ("math/bits.deBruijn64tab", laid_math_bits_deBruijn64tab)], narrowed := true }
def WettingLeastsUptoSaid : Prop := wettingLeastsUptoRow.holds Tryd.pinned (OpenSpec.upto wettingLeastsSpec)

/-- 'numnahlaw06.WettingHits', WHERE WHAT IT READS IS OF BULK AT MOST 1048576: true; the input reads as it did. -/
def wettingHitsUptoRow : OpenClaim := { program := "ytpbeaaihdmfnlaadoor", sum := "fc92a2a936717129085d6fc98b434fe200ef403d47437e070013fb4efe8a432a", func := "numnah/numnahlaw06.WettingHits", spec := "wettingHits", unfollowed := true, recurses := true, named := ["math/bits.deBruijn32tab", "math/bits.deBruijn64tab"], apart := false, laid := [("math/bits.deBruijn32tab", laid_math_bits_deBruijn32tab), ("math/bits.deBruijn64tab", laid_math_bits_deBruijn64tab)], narrowed := true }
def WettingHitsUptoSaid : Prop := wettingHitsUptoRow.holds Tryd.pinned (OpenSpec.upto wettingHitsSpec)

/-- 'numnahlaw06.WettingRenamed', WHERE WHAT IT READS IS OF BULK AT MOST 1048576: true; the input reads as it did. -/
def wettingRenamedUptoRow : OpenClaim := { program := "ytpbeaaihdmfnlaadoor", sum := "fc92a2a936717129085d6fc98b434fe200ef403d47437e070013fb4efe8a432a", func := "numnah/numnahlaw06.WettingRenamed", spec := "wettingRenamed", unfollowed := true, recurses := true, named := ["math/bits.deBruijn32tab", "math/bits.deBruijn64tab"], apart := false, laid := [("math/bits.deBruijn32tab", laid_math_bits_deBruijn32tab), ("math/bits.deBruijn64tab", laid_math_bits_deBruijn64tab)], narrowed := true }
def WettingRenamedUptoSaid : Prop := wettingRenamedUptoRow.holds Tryd.pinned (OpenSpec.upto wettingRenamedSpec)

/-- 'numnahlaw06.WettingOwn', WHERE WHAT IT READS IS OF BULK AT MOST 1048576: true; the input reads as it did. -/
def wettingOwnUptoRow : OpenClaim := { program := "ytpbeaaihdmfnlaadoor", sum := "fc92a2a936717129085d6fc98b434fe200ef403d47437e070013fb4efe8a432a", func := "numnah/numnahlaw06.WettingOwn", spec := "wettingOwn", unfollowed := true, recurses := true, named := ["math/bits.deBruijn32tab", "math/bits.deBruijn64tab"], apart := false, laid := [("math/bits.deBruijn32tab", laid_math_bits_deBruijn32tab), ("math/bits.deBruijn64tab", laid_math_bits_deBruijn64tab)], narrowed := true }
def WettingOwnUptoSaid : Prop := wettingOwnUptoRow.holds Tryd.pinned (OpenSpec.upto wettingOwnSpec)

/-- 'numnahlaw06.WettingChecks', WHERE WHAT IT READS IS OF BULK AT MOST 1048576: true; the input reads as it did. -/
def wettingChecksUptoRow : OpenClaim := { program := "ytpbeaaihdmfnlaadoor", sum := "fc92a2a936717129085d6fc98b434fe200ef403d47437e070013fb4efe8a432a", func := "numnah/numnahlaw06.WettingChecks", spec := "wettingChecks", unfollowed := true, recurses := true, named := ["math/bits.deBruijn32tab", "math/bits.deBruijn64tab"], apart := false, laid := [("math/bits.deBruijn32tab", laid_math_bits_deBruijn32tab), ("math/bits.deBruijn64tab", laid_math_bits_deBruijn64tab)], narrowed := true }
def WettingChecksUptoSaid : Prop := wettingChecksUptoRow.holds Tryd.pinned (OpenSpec.upto wettingChecksSpec)

/-- 'numnahlaw06.WettingOrders', WHERE WHAT IT READS IS OF BULK AT MOST 1048576: true; the input reads as it did. -/
def wettingOrdersUptoRow : OpenClaim := { program := "ytpbeaaihdmfnlaadoor", sum := "fc92a2a936717129085d6fc98b434fe200ef403d47437e070013fb4efe8a432a", func := "numnah/numnahlaw06.WettingOrders", spec := "wettingOrders", unfollowed := true, recurses := true, named := ["math/bits.deBruijn32tab", "math/bits.deBruijn64tab"], apart := false, laid := [("math/bits.deBruijn32tab", laid_math_bits_deBruijn32tab), ("math/bits.deBruijn64tab", laid_math_bits_deBruijn64tab)], narrowed := true }
def WettingOrdersUptoSaid : Prop := wettingOrdersUptoRow.holds Tryd.pinned (OpenSpec.upto wettingOrdersSpec)

/-- 'numnahlaw06.WettingFewests', WHERE WHAT IT READS IS OF BULK AT MOST 1048576: true; the input reads as it did. -/
def wettingFewestsUptoRow : OpenClaim := { program := "ytpbeaaihdmfnlaadoor", sum := "fc92a2a936717129085d6fc98b434fe200ef403d47437e070013fb4efe8a432a", func := "numnah/numnahlaw06.WettingFewests", spec := "wettingFewests", unfollowed := true, recurses := true, named := ["math/bits.deBruijn32tab", "math/bits.deBruijn64tab"], apart := false, laid := [("math/bits.deBruijn32tab", laid_math_bits_deBruijn32tab), ("math/bits.deBruijn64tab", laid_math_bits_deBruijn64tab)], narrowed := true }
def WettingFewestsUptoSaid : Prop := wettingFewestsUptoRow.holds Tryd.pinned (OpenSpec.upto wettingFewestsSpec)

/-- 'numnahlaw06.WettingUnions', WHERE WHAT IT READS IS OF BULK AT MOST 1048576: true; the input reads as it did. -/
def wettingUnionsUptoRow : OpenClaim := { program := "ytpbeaaihdmfnlaadoor", sum := "fc92a2a936717129085d6fc98b434fe200ef403d47437e070013fb4efe8a432a", func := "numnah/numnahlaw06.WettingUnions", spec := "wettingUnions", unfollowed := true, recurses := true, named := ["math/bits.deBruijn32tab", "math/bits.deBruijn64tab"], apart := false, laid := [("math/bits.deBruijn32tab", laid_math_bits_deBruijn32tab), ("math/bits.deBruijn64tab", laid_math_bits_deBruijn64tab)], narrowed := true }
def WettingUnionsUptoSaid : Prop := wettingUnionsUptoRow.holds Tryd.pinned (OpenSpec.upto wettingUnionsSpec)

/-- 'numnahlaw06.WettingCloses', WHERE WHAT IT READS IS OF BULK AT MOST 1048576: true; the input reads as it did. -/
def wettingClosesUptoRow : OpenClaim := { program := "ytpbeaaihdmfnlaadoor", sum := "fc92a2a936717129085d6fc98b434fe200ef403d47437e070013fb4efe8a432a", func := "numnah/numnahlaw06.WettingCloses", spec := "wettingCloses", unfollowed := true, recurses := true, named := ["math/bits.deBruijn32tab", "math/bits.deBruijn64tab"], apart := false, laid := [("math/bits.deBruijn32tab", laid_math_bits_deBruijn32tab), ("math/bits.deBruijn64tab", laid_math_bits_deBruijn64tab)], narrowed := true }
def WettingClosesUptoSaid : Prop := wettingClosesUptoRow.holds Tryd.pinned (OpenSpec.upto wettingClosesSpec)

/-- 'numnahlaw06.WettingSoaks', WHERE WHAT IT READS IS OF BULK AT MOST 1048576: true; the input reads as it did. -/
def wettingSoaksUptoRow : OpenClaim := { program := "ytpbeaaihdmfnlaadoor", sum := "fc92a2a936717129085d6fc98b434fe200ef403d47437e070013fb4efe8a432a", func := "numnah/numnahlaw06.WettingSoaks", spec := "wettingSoaks", unfollowed := true, recurses := true, named := ["math/bits.deBruijn32tab", "math/bits.deBruijn64tab"], apart := false, laid := [("math/bits.deBruijn32tab", laid_math_bits_deBruijn32tab), ("math/bits.deBruijn64tab", laid_math_bits_deBruijn64tab)], narrowed := true }
def WettingSoaksUptoSaid : Prop := wettingSoaksUptoRow.holds Tryd.pinned (OpenSpec.upto wettingSoaksSpec)

/-- 'numnahlaw06.WettingGrows', WHERE WHAT IT READS IS OF BULK AT MOST 1048576: true; the input reads as it did. -/
def wettingGrowsUptoRow : OpenClaim := { program := "ytpbeaaihdmfnlaadoor", sum := "fc92a2a936717129085d6fc98b434fe200ef403d47437e070013fb4efe8a432a", func := "numnah/numnahlaw06.WettingGrows", spec := "wettingGrows", unfollowed := true, recurses := true, named := ["math/bits.deBruijn32tab", "math/bits.deBruijn64tab"], apart := false, laid := [("math/bits.deBruijn32tab", laid_math_bits_deBruijn32tab), ("math/bits.deBruijn64tab", laid_math_bits_deBruijn64tab)], narrowed := true }
def WettingGrowsUptoSaid : Prop := wettingGrowsUptoRow.holds Tryd.pinned (OpenSpec.upto wettingGrowsSpec)

/-- 'numnahlaw06.WettingThresholds', WHERE WHAT IT READS IS OF BULK AT MOST 1048576: true; the input reads as it did. -/
def wettingThresholdsUptoRow : OpenClaim := { program := "ytpbeaaihdmfnlaadoor", sum := "fc92a2a936717129085d6fc98b434fe200ef403d47437e070013fb4efe8a432a", func := "numnah/numnahlaw06.WettingThresholds", spec := "wettingThresholds", unfollowed := true, recurses := true, named := ["math/bits.deBruijn32tab", "math/bits.deBruijn64tab"], apart := false, laid := [("math/bits.deBruijn32tab", laid_math_bits_deBruijn32tab), ("math/bits.deBruijn64tab", laid_math_bits_deBruijn64tab)], narrowed := true }
def WettingThresholdsUptoSaid : Prop := wettingThresholdsUptoRow.holds Tryd.pinned (OpenSpec.upto wettingThresholdsSpec)

/-- 'numnahlaw06.WettingChained', WHERE WHAT IT READS IS OF BULK AT MOST 1048576: true; the input reads as it did. -/
def wettingChainedUptoRow : OpenClaim := { program := "ytpbeaaihdmfnlaadoor", sum := "fc92a2a936717129085d6fc98b434fe200ef403d47437e070013fb4efe8a432a", func := "numnah/numnahlaw06.WettingChained", spec := "wettingChained", unfollowed := true, recurses := true, named := ["math/bits.deBruijn32tab", "math/bits.deBruijn64tab"], apart := false, laid := [("math/bits.deBruijn32tab", laid_math_bits_deBruijn32tab), ("math/bits.deBruijn64tab", laid_math_bits_deBruijn64tab)], narrowed := true }
def WettingChainedUptoSaid : Prop := wettingChainedUptoRow.holds Tryd.pinned (OpenSpec.upto wettingChainedSpec)

/-- 'numnahlaw06.WettingChronicles', WHERE WHAT IT READS IS OF BULK AT MOST 1048576: true; the input reads as it did. -/
def wettingChroniclesUptoRow : OpenClaim := { program := "ytpbeaaihdmfnlaadoor", sum := "fc92a2a936717129085d6fc98b434fe200ef403d47437e070013fb4efe8a432a", func := "numnah/numnahlaw06.WettingChronicles", spec := "wettingChronicles", unfollowed := true, recurses := true, named := ["math/bits.deBruijn32tab", "math/bits.deBruijn64tab"], apart := false, laid := [("math/bits.deBruijn32tab", laid_math_bits_deBruijn32tab), ("math/bits.deBruijn64tab", laid_math_bits_deBruijn64tab)], narrowed := true }
def WettingChroniclesUptoSaid : Prop := wettingChroniclesUptoRow.holds Tryd.pinned (OpenSpec.upto wettingChroniclesSpec)

end Rows
end Go.Proofs.YtpbeaaihdmfnlaaDoor
