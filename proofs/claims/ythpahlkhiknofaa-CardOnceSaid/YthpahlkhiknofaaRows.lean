/-
  No cell of these rows narrows 'for every input' (looked for: loops, veiled, ifaces, maps, wideKeys, modest, calm, conditions, laid).
  DERIVED. THE GIVEN ROWS OF THIS SEAT. 13 by the template 'for every input the law returns true; each argument reads behind the call as it read before'; 0 by the template 'total and deterministic' (their statements: YthpahlkhiknofaaTotals.lean).
  GIVEN WITH THE SEED: the statements are not yours to turn. If you find one false, say at which input.
  Laid BY PROGRAM, IN A SANDBOX (cutbox-rows.mjs): the forced cells as the released guide's own fill.sh prints them over the translation e1e35f8fd0ac6077… (all of the seat's roots in one cut). By AI agents, Wed Nov 11 2026. No macro, syntax, notation, axiom, sorry.
-/
import Derived.Test.YthpahlkhiknofaaChecked
import GoSem.Claim
import GoSem.ClaimJoined
import GoSem.ClaimMapViews
import Derived.JoinedTies
import Derived.KernelRfl
namespace Go.Proofs.Ythpahlkhiknofaa
/- THE CELL 'sum', in the pinned program and in every row, IS THE sha256 OF THE DUMP (.gsa) THAT YthpahlkhiknofaaProg.lean LOADS. Nothing in Lean hashes anything: it is a label: what it is worth is what the hold of that sum in a sandbox is worth. -/
noncomputable def Try.pinned : Pinned := { name := "ythpahlkhiknofaa", sum := "e1e35f8fd0ac6077e127ced18b573220268fab158c882c2ec3e6cad5c9a89f2f", checked := Try.checked }
namespace Rows
def none {H : Type} : Left H := { results := [], args := [] }

/-- 'numnahlaw01.CardRealizes': WHATEVER THE INPUT: true; the input reads as it did. -/
def cardRealizesSpec : ChangeSpec := { name := "cardRealizes", fn := fun _ => fun
  | [d1, d2, d3] => { results := [.lit (.bool true)], args := [d1, d2, d3] }
  | _ => none }
def cardRealizesRow : OpenClaim := { program := "ythpahlkhiknofaa", sum := "e1e35f8fd0ac6077e127ced18b573220268fab158c882c2ec3e6cad5c9a89f2f", func := "numnah/numnahlaw01.CardRealizes", spec := "cardRealizes", inPlace := ["internal/bytealg.IndexByteString", "internal/bytealg.IndexString", "internal/bytealg.abigen_runtime_cmpstring"], unfollowed := true, recurses := true, named := ["internal/bytealg.MaxLen"], plainKeys := false, apart := false }
def CardRealizesSaid : Prop := cardRealizesRow.holds Try.pinned (OpenSpec.ofChange cardRealizesSpec)

/-- ITS FALSE NEIGHBOUR: 'it returns false'. Refute it at one input. -/
def cardRealizesWrong : ChangeSpec := { name := "cardRealizes", fn := fun _ => fun
  | [d1, d2, d3] => { results := [.lit (.bool false)], args := [d1, d2, d3] }
  | _ => none }
def CardRealizesWrongFalsely : Prop := cardRealizesRow.holds Try.pinned (OpenSpec.ofChange cardRealizesWrong)

/-- 'numnahlaw01.CardInside': WHATEVER THE INPUT: true; the input reads as it did. -/
def cardInsideSpec : ChangeSpec := { name := "cardInside", fn := fun _ => fun
  | [d1, d2, d3] => { results := [.lit (.bool true)], args := [d1, d2, d3] }
  | _ => none }
def cardInsideRow : OpenClaim := { program := "ythpahlkhiknofaa", sum := "e1e35f8fd0ac6077e127ced18b573220268fab158c882c2ec3e6cad5c9a89f2f", func := "numnah/numnahlaw01.CardInside", spec := "cardInside", inPlace := ["internal/bytealg.abigen_runtime_cmpstring", "internal/bytealg.IndexByteString", "internal/bytealg.IndexString"], unfollowed := true, recurses := true, named := ["internal/bytealg.MaxLen"], plainKeys := false, apart := false }
def CardInsideSaid : Prop := cardInsideRow.holds Try.pinned (OpenSpec.ofChange cardInsideSpec)

/-- ITS FALSE NEIGHBOUR: 'it returns false'. Refute it at one input. -/
def cardInsideWrong : ChangeSpec := { name := "cardInside", fn := fun _ => fun
  | [d1, d2, d3] => { results := [.lit (.bool false)], args := [d1, d2, d3] }
  | _ => none }
def CardInsideWrongFalsely : Prop := cardInsideRow.holds Try.pinned (OpenSpec.ofChange cardInsideWrong)

/-- 'numnahlaw01.CardPoints': WHATEVER THE INPUT: true; the input reads as it did. -/
def cardPointsSpec : ChangeSpec := { name := "cardPoints", fn := fun _ => fun
  | [d] => { results := [.lit (.bool true)], args := [d] }
  | _ => none }
def cardPointsRow : OpenClaim := { program := "ythpahlkhiknofaa", sum := "e1e35f8fd0ac6077e127ced18b573220268fab158c882c2ec3e6cad5c9a89f2f", func := "numnah/numnahlaw01.CardPoints", spec := "cardPoints", inPlace := ["internal/bytealg.abigen_runtime_cmpstring", "internal/bytealg.IndexByteString", "internal/bytealg.IndexString"], unfollowed := true, recurses := true, named := ["internal/bytealg.MaxLen"], plainKeys := false, apart := false }
def CardPointsSaid : Prop := cardPointsRow.holds Try.pinned (OpenSpec.ofChange cardPointsSpec)

/-- ITS FALSE NEIGHBOUR: 'it returns false'. Refute it at one input. -/
def cardPointsWrong : ChangeSpec := { name := "cardPoints", fn := fun _ => fun
  | [d] => { results := [.lit (.bool false)], args := [d] }
  | _ => none }
def CardPointsWrongFalsely : Prop := cardPointsRow.holds Try.pinned (OpenSpec.ofChange cardPointsWrong)

/-- 'numnahlaw01.CardTurns': WHATEVER THE INPUT: true; the input reads as it did. -/
def cardTurnsSpec : ChangeSpec := { name := "cardTurns", fn := fun _ => fun
  | [d1, d2, d3] => { results := [.lit (.bool true)], args := [d1, d2, d3] }
  | _ => none }
def cardTurnsRow : OpenClaim := { program := "ythpahlkhiknofaa", sum := "e1e35f8fd0ac6077e127ced18b573220268fab158c882c2ec3e6cad5c9a89f2f", func := "numnah/numnahlaw01.CardTurns", spec := "cardTurns", inPlace := ["internal/bytealg.abigen_runtime_cmpstring", "internal/bytealg.IndexByteString", "internal/bytealg.IndexString"], unfollowed := true, recurses := true, named := ["internal/bytealg.MaxLen"], plainKeys := false, apart := false }
def CardTurnsSaid : Prop := cardTurnsRow.holds Try.pinned (OpenSpec.ofChange cardTurnsSpec)

/-- ITS FALSE NEIGHBOUR: 'it returns false'. Refute it at one input. -/
def cardTurnsWrong : ChangeSpec := { name := "cardTurns", fn := fun _ => fun
  | [d1, d2, d3] => { results := [.lit (.bool false)], args := [d1, d2, d3] }
  | _ => none }
def CardTurnsWrongFalsely : Prop := cardTurnsRow.holds Try.pinned (OpenSpec.ofChange cardTurnsWrong)

/-- 'numnahlaw01.CardCovers': WHATEVER THE INPUT: true; the input reads as it did. -/
def cardCoversSpec : ChangeSpec := { name := "cardCovers", fn := fun _ => fun
  | [d] => { results := [.lit (.bool true)], args := [d] }
  | _ => none }
def cardCoversRow : OpenClaim := { program := "ythpahlkhiknofaa", sum := "e1e35f8fd0ac6077e127ced18b573220268fab158c882c2ec3e6cad5c9a89f2f", func := "numnah/numnahlaw01.CardCovers", spec := "cardCovers", inPlace := ["internal/bytealg.abigen_runtime_cmpstring", "internal/bytealg.IndexByteString", "internal/bytealg.IndexString"], unfollowed := true, recurses := true, named := ["internal/bytealg.MaxLen"], plainKeys := false, apart := false }
def CardCoversSaid : Prop := cardCoversRow.holds Try.pinned (OpenSpec.ofChange cardCoversSpec)

/-- ITS FALSE NEIGHBOUR: 'it returns false'. Refute it at one input. -/
def cardCoversWrong : ChangeSpec := { name := "cardCovers", fn := fun _ => fun
  | [d] => { results := [.lit (.bool false)], args := [d] }
  | _ => none }
def CardCoversWrongFalsely : Prop := cardCoversRow.holds Try.pinned (OpenSpec.ofChange cardCoversWrong)

/-- 'numnahlaw01.CardWeights': WHATEVER THE INPUT: true; the input reads as it did. -/
def cardWeightsSpec : ChangeSpec := { name := "cardWeights", fn := fun _ => fun
  | [d] => { results := [.lit (.bool true)], args := [d] }
  | _ => none }
def cardWeightsRow : OpenClaim := { program := "ythpahlkhiknofaa", sum := "e1e35f8fd0ac6077e127ced18b573220268fab158c882c2ec3e6cad5c9a89f2f", func := "numnah/numnahlaw01.CardWeights", spec := "cardWeights", inPlace := ["internal/bytealg.IndexByteString", "internal/bytealg.IndexString", "internal/bytealg.abigen_runtime_cmpstring"], unfollowed := true, recurses := true, named := ["internal/bytealg.MaxLen"], plainKeys := false, apart := false }
def CardWeightsSaid : Prop := cardWeightsRow.holds Try.pinned (OpenSpec.ofChange cardWeightsSpec)

/-- ITS FALSE NEIGHBOUR: 'it returns false'. Refute it at one input. -/
def cardWeightsWrong : ChangeSpec := { name := "cardWeights", fn := fun _ => fun
  | [d] => { results := [.lit (.bool false)], args := [d] }
  | _ => none }
def CardWeightsWrongFalsely : Prop := cardWeightsRow.holds Try.pinned (OpenSpec.ofChange cardWeightsWrong)

/-- 'numnahlaw01.CardOnce': WHATEVER THE INPUT: true; the input reads as it did. -/
def cardOnceSpec : ChangeSpec := { name := "cardOnce", fn := fun _ => fun
  | [d1, d2, d3, d4] => { results := [.lit (.bool true)], args := [d1, d2, d3, d4] }
  | _ => none }
def cardOnceRow : OpenClaim := { program := "ythpahlkhiknofaa", sum := "e1e35f8fd0ac6077e127ced18b573220268fab158c882c2ec3e6cad5c9a89f2f", func := "numnah/numnahlaw01.CardOnce", spec := "cardOnce", inPlace := ["internal/bytealg.IndexByteString", "internal/bytealg.IndexString", "internal/bytealg.abigen_runtime_cmpstring"], unfollowed := true, recurses := true, named := ["internal/bytealg.MaxLen"], plainKeys := false, apart := false }
def CardOnceSaid : Prop := cardOnceRow.holds Try.pinned (OpenSpec.ofChange cardOnceSpec)

/-- ITS FALSE NEIGHBOUR: 'it returns false'. Refute it at one input. -/
def cardOnceWrong : ChangeSpec := { name := "cardOnce", fn := fun _ => fun
  | [d1, d2, d3, d4] => { results := [.lit (.bool false)], args := [d1, d2, d3, d4] }
  | _ => none }
def CardOnceWrongFalsely : Prop := cardOnceRow.holds Try.pinned (OpenSpec.ofChange cardOnceWrong)

/-- 'numnahlaw01.CardChecks': WHATEVER THE INPUT: true; the input reads as it did. -/
def cardChecksSpec : ChangeSpec := { name := "cardChecks", fn := fun _ => fun
  | [d1, d2] => { results := [.lit (.bool true)], args := [d1, d2] }
  | _ => none }
def cardChecksRow : OpenClaim := { program := "ythpahlkhiknofaa", sum := "e1e35f8fd0ac6077e127ced18b573220268fab158c882c2ec3e6cad5c9a89f2f", func := "numnah/numnahlaw01.CardChecks", spec := "cardChecks", inPlace := ["internal/bytealg.abigen_runtime_cmpstring", "internal/bytealg.IndexByteString", "internal/bytealg.IndexString"], unfollowed := true, recurses := true, named := ["internal/bytealg.MaxLen"], plainKeys := false, apart := false }
def CardChecksSaid : Prop := cardChecksRow.holds Try.pinned (OpenSpec.ofChange cardChecksSpec)

/-- ITS FALSE NEIGHBOUR: 'it returns false'. Refute it at one input. -/
def cardChecksWrong : ChangeSpec := { name := "cardChecks", fn := fun _ => fun
  | [d1, d2] => { results := [.lit (.bool false)], args := [d1, d2] }
  | _ => none }
def CardChecksWrongFalsely : Prop := cardChecksRow.holds Try.pinned (OpenSpec.ofChange cardChecksWrong)

/-- 'numnahlaw01.CardTwice': WHATEVER THE INPUT: true; the input reads as it did. -/
def cardTwiceSpec : ChangeSpec := { name := "cardTwice", fn := fun _ => fun
  | [d1, d2, d3] => { results := [.lit (.bool true)], args := [d1, d2, d3] }
  | _ => none }
def cardTwiceRow : OpenClaim := { program := "ythpahlkhiknofaa", sum := "e1e35f8fd0ac6077e127ced18b573220268fab158c882c2ec3e6cad5c9a89f2f", func := "numnah/numnahlaw01.CardTwice", spec := "cardTwice", inPlace := ["internal/bytealg.IndexByteString", "internal/bytealg.IndexString", "internal/bytealg.abigen_runtime_cmpstring"], unfollowed := true, recurses := true, named := ["internal/bytealg.MaxLen"], plainKeys := false, apart := false }
def CardTwiceSaid : Prop := cardTwiceRow.holds Try.pinned (OpenSpec.ofChange cardTwiceSpec)

/-- ITS FALSE NEIGHBOUR: 'it returns false'. Refute it at one input. -/
def cardTwiceWrong : ChangeSpec := { name := "cardTwice", fn := fun _ => fun
  | [d1, d2, d3] => { results := [.lit (.bool false)], args := [d1, d2, d3] }
  | _ => none }
def CardTwiceWrongFalsely : Prop := cardTwiceRow.holds Try.pinned (OpenSpec.ofChange cardTwiceWrong)

/-- 'numnahlaw01.CardMeasured': WHATEVER THE INPUT: true; the input reads as it did. -/
def cardMeasuredSpec : ChangeSpec := { name := "cardMeasured", fn := fun _ => fun
  | [d1, d2] => { results := [.lit (.bool true)], args := [d1, d2] }
  | _ => none }
def cardMeasuredRow : OpenClaim := { program := "ythpahlkhiknofaa", sum := "e1e35f8fd0ac6077e127ced18b573220268fab158c882c2ec3e6cad5c9a89f2f", func := "numnah/numnahlaw01.CardMeasured", spec := "cardMeasured", inPlace := ["internal/bytealg.IndexByteString", "internal/bytealg.IndexString", "internal/bytealg.abigen_runtime_cmpstring"], unfollowed := true, recurses := true, named := ["internal/bytealg.MaxLen"], plainKeys := false, apart := false }
def CardMeasuredSaid : Prop := cardMeasuredRow.holds Try.pinned (OpenSpec.ofChange cardMeasuredSpec)

/-- ITS FALSE NEIGHBOUR: 'it returns false'. Refute it at one input. -/
def cardMeasuredWrong : ChangeSpec := { name := "cardMeasured", fn := fun _ => fun
  | [d1, d2] => { results := [.lit (.bool false)], args := [d1, d2] }
  | _ => none }
def CardMeasuredWrongFalsely : Prop := cardMeasuredRow.holds Try.pinned (OpenSpec.ofChange cardMeasuredWrong)

/-- 'numnahlaw01.CardSums': WHATEVER THE INPUT: true; the input reads as it did. -/
def cardSumsSpec : ChangeSpec := { name := "cardSums", fn := fun _ => fun
  | [d] => { results := [.lit (.bool true)], args := [d] }
  | _ => none }
def cardSumsRow : OpenClaim := { program := "ythpahlkhiknofaa", sum := "e1e35f8fd0ac6077e127ced18b573220268fab158c882c2ec3e6cad5c9a89f2f", func := "numnah/numnahlaw01.CardSums", spec := "cardSums", inPlace := ["internal/bytealg.IndexByteString", "internal/bytealg.IndexString", "internal/bytealg.abigen_runtime_cmpstring"], unfollowed := true, recurses := true, named := ["internal/bytealg.MaxLen"], plainKeys := false, apart := false }
def CardSumsSaid : Prop := cardSumsRow.holds Try.pinned (OpenSpec.ofChange cardSumsSpec)

/-- ITS FALSE NEIGHBOUR: 'it returns false'. Refute it at one input. -/
def cardSumsWrong : ChangeSpec := { name := "cardSums", fn := fun _ => fun
  | [d] => { results := [.lit (.bool false)], args := [d] }
  | _ => none }
def CardSumsWrongFalsely : Prop := cardSumsRow.holds Try.pinned (OpenSpec.ofChange cardSumsWrong)

/-- 'numnahlaw01.CardUnate': WHATEVER THE INPUT: true; the input reads as it did. -/
def cardUnateSpec : ChangeSpec := { name := "cardUnate", fn := fun _ => fun
  | [d1, d2] => { results := [.lit (.bool true)], args := [d1, d2] }
  | _ => none }
def cardUnateRow : OpenClaim := { program := "ythpahlkhiknofaa", sum := "e1e35f8fd0ac6077e127ced18b573220268fab158c882c2ec3e6cad5c9a89f2f", func := "numnah/numnahlaw01.CardUnate", spec := "cardUnate", inPlace := ["internal/bytealg.IndexByteString", "internal/bytealg.IndexString", "internal/bytealg.abigen_runtime_cmpstring"], unfollowed := true, recurses := true, named := ["internal/bytealg.MaxLen"], plainKeys := false, apart := false }
def CardUnateSaid : Prop := cardUnateRow.holds Try.pinned (OpenSpec.ofChange cardUnateSpec)

/-- ITS FALSE NEIGHBOUR: 'it returns false'. Refute it at one input. -/
def cardUnateWrong : ChangeSpec := { name := "cardUnate", fn := fun _ => fun
  | [d1, d2] => { results := [.lit (.bool false)], args := [d1, d2] }
  | _ => none }
def CardUnateWrongFalsely : Prop := cardUnateRow.holds Try.pinned (OpenSpec.ofChange cardUnateWrong)

/-- 'numnahlaw01.CardTurned': WHATEVER THE INPUT: true; the input reads as it did. -/
def cardTurnedSpec : ChangeSpec := { name := "cardTurned", fn := fun _ => fun
  | [d1, d2, d3] => { results := [.lit (.bool true)], args := [d1, d2, d3] }
  | _ => none }
def cardTurnedRow : OpenClaim := { program := "ythpahlkhiknofaa", sum := "e1e35f8fd0ac6077e127ced18b573220268fab158c882c2ec3e6cad5c9a89f2f", func := "numnah/numnahlaw01.CardTurned", spec := "cardTurned", inPlace := ["internal/bytealg.abigen_runtime_cmpstring", "internal/bytealg.IndexByteString", "internal/bytealg.IndexString"], unfollowed := true, recurses := true, named := ["internal/bytealg.MaxLen"], plainKeys := false, apart := false }
def CardTurnedSaid : Prop := cardTurnedRow.holds Try.pinned (OpenSpec.ofChange cardTurnedSpec)

/-- ITS FALSE NEIGHBOUR: 'it returns false'. Refute it at one input. -/
def cardTurnedWrong : ChangeSpec := { name := "cardTurned", fn := fun _ => fun
  | [d1, d2, d3] => { results := [.lit (.bool false)], args := [d1, d2, d3] }
  | _ => none }
def CardTurnedWrongFalsely : Prop := cardTurnedRow.holds Try.pinned (OpenSpec.ofChange cardTurnedWrong)

/- THE SECOND FORM. 'bulk': how many values and letters a reading holds, each counted each time it is reached (what is shared counts as often as it is met; a slice's spare places count too). A statement '..UptoSaid' is the law's where the arguments, and the package variables that the reading takes, are together of bulk at most 1048576: NARROWER than '..Said'. Prove '..Said' where nothing that the law and all that it calls make is longer than what came in: it says more and counts as full. Else prove '..UptoSaid'. A law counts once. -/
mutual
def uptoBulk {H : Type} : DataW H → Nat
  | .lit (.string bytes) => bytes.length + 1
  | .lit _ => 1
  | .nil => 1
  | .ptr d => uptoBulk d + 1
  | .slice elems spare => uptoBulkAll elems + uptoBulkAll spare + 1
  | .agg parts => uptoBulkAll parts + 1
  | .iface _ d => uptoBulk d + 1
  | .map entries => uptoBulkEntries entries + 1
  | .held _ => 1
def uptoBulkAll {H : Type} : List (DataW H) → Nat
  | [] => 0
  | d :: r => uptoBulk d + uptoBulkAll r
def uptoBulkEntries {H : Type} : List (Lit × DataW H) → Nat
  | [] => 0
  | x :: r => uptoBulkEntry x + uptoBulkEntries r
def uptoBulkEntry {H : Type} : Lit × DataW H → Nat
  | (.string bytes, d) => bytes.length + uptoBulk d + 1
  | (_, d) => uptoBulk d + 1
 end
def uptoSmall : (H : Type) → List (DataW H) → Bool := fun _ ds => decide (uptoBulkAll ds ≤ 1048576)
def OpenSpec.upto (s : _root_.Go.ChangeSpec) : _root_.Go.OpenSpec := { _root_.Go.OpenSpec.ofChange s with cond := some uptoSmall }

/-- 'numnahlaw01.CardRealizes', WHERE WHAT IT READS IS OF BULK AT MOST 1048576: true; the input reads as it did. -/
def cardRealizesUptoRow : OpenClaim := { program := "ythpahlkhiknofaa", sum := "e1e35f8fd0ac6077e127ced18b573220268fab158c882c2ec3e6cad5c9a89f2f", func := "numnah/numnahlaw01.CardRealizes", spec := "cardRealizes", inPlace := ["internal/bytealg.IndexByteString", "internal/bytealg.IndexString", "internal/bytealg.abigen_runtime_cmpstring"], unfollowed := true, recurses := true, named := ["internal/bytealg.MaxLen"], plainKeys := false, apart := false, narrowed := true }
def CardRealizesUptoSaid : Prop := cardRealizesUptoRow.holds Try.pinned (OpenSpec.upto cardRealizesSpec)

/-- 'numnahlaw01.CardInside', WHERE WHAT IT READS IS OF BULK AT MOST 1048576: true; the input reads as it did. -/
def cardInsideUptoRow : OpenClaim := { program := "ythpahlkhiknofaa", sum := "e1e35f8fd0ac6077e127ced18b573220268fab158c882c2ec3e6cad5c9a89f2f", func := "numnah/numnahlaw01.CardInside", spec := "cardInside", inPlace := ["internal/bytealg.abigen_runtime_cmpstring", "internal/bytealg.IndexByteString", "internal/bytealg.IndexString"], unfollowed := true, recurses := true, named := ["internal/bytealg.MaxLen"], plainKeys := false, apart := false, narrowed := true }
def CardInsideUptoSaid : Prop := cardInsideUptoRow.holds Try.pinned (OpenSpec.upto cardInsideSpec)

/-- 'numnahlaw01.CardPoints', WHERE WHAT IT READS IS OF BULK AT MOST 1048576: true; the input reads as it did. -/
def cardPointsUptoRow : OpenClaim := { program := "ythpahlkhiknofaa", sum := "e1e35f8fd0ac6077e127ced18b573220268fab158c882c2ec3e6cad5c9a89f2f", func := "numnah/numnahlaw01.CardPoints", spec := "cardPoints", inPlace := ["internal/bytealg.abigen_runtime_cmpstring", "internal/bytealg.IndexByteString", "internal/bytealg.IndexString"], unfollowed := true, recurses := true, named := ["internal/bytealg.MaxLen"], plainKeys := false, apart := false, narrowed := true }
def CardPointsUptoSaid : Prop := cardPointsUptoRow.holds Try.pinned (OpenSpec.upto cardPointsSpec)

/-- 'numnahlaw01.CardTurns', WHERE WHAT IT READS IS OF BULK AT MOST 1048576: true; the input reads as it did. -/
def cardTurnsUptoRow : OpenClaim := { program := "ythpahlkhiknofaa", sum := "e1e35f8fd0ac6077e127ced18b573220268fab158c882c2ec3e6cad5c9a89f2f", func := "numnah/numnahlaw01.CardTurns", spec := "cardTurns", inPlace := ["internal/bytealg.abigen_runtime_cmpstring", "internal/bytealg.IndexByteString", "internal/bytealg.IndexString"], unfollowed := true, recurses := true, named := ["internal/bytealg.MaxLen"], plainKeys := false, apart := false, narrowed := true }
def CardTurnsUptoSaid : Prop := cardTurnsUptoRow.holds Try.pinned (OpenSpec.upto cardTurnsSpec)

/-- 'numnahlaw01.CardCovers', WHERE WHAT IT READS IS OF BULK AT MOST 1048576: true; the input reads as it did. -/
def cardCoversUptoRow : OpenClaim := { program := "ythpahlkhiknofaa", sum := "e1e35f8fd0ac6077e127ced18b573220268fab158c882c2ec3e6cad5c9a89f2f", func := "numnah/numnahlaw01.CardCovers", spec := "cardCovers", inPlace := ["internal/bytealg.abigen_runtime_cmpstring", "internal/bytealg.IndexByteString", "internal/bytealg.IndexString"], unfollowed := true, recurses := true, named := ["internal/bytealg.MaxLen"], plainKeys := false, apart := false, narrowed := true }
def CardCoversUptoSaid : Prop := cardCoversUptoRow.holds Try.pinned (OpenSpec.upto cardCoversSpec)

/-- 'numnahlaw01.CardWeights', WHERE WHAT IT READS IS OF BULK AT MOST 1048576: true; the input reads as it did. -/
def cardWeightsUptoRow : OpenClaim := { program := "ythpahlkhiknofaa", sum := "e1e35f8fd0ac6077e127ced18b573220268fab158c882c2ec3e6cad5c9a89f2f", func := "numnah/numnahlaw01.CardWeights", spec := "cardWeights", inPlace := ["internal/bytealg.IndexByteString", "internal/bytealg.IndexString", "internal/bytealg.abigen_runtime_cmpstring"], unfollowed := true, recurses := true, named := ["internal/bytealg.MaxLen"], plainKeys := false, apart := false, narrowed := true }
def CardWeightsUptoSaid : Prop := cardWeightsUptoRow.holds Try.pinned (OpenSpec.upto cardWeightsSpec)

/-- 'numnahlaw01.CardOnce', WHERE WHAT IT READS IS OF BULK AT MOST 1048576: true; the input reads as it did. -/
def cardOnceUptoRow : OpenClaim := { program := "ythpahlkhiknofaa", sum := "e1e35f8fd0ac6077e127ced18b573220268fab158c882c2ec3e6cad5c9a89f2f", func := "numnah/numnahlaw01.CardOnce", spec := "cardOnce", inPlace := ["internal/bytealg.IndexByteString", "internal/bytealg.IndexString", "internal/bytealg.abigen_runtime_cmpstring"], unfollowed := true, recurses := true, named := ["internal/bytealg.MaxLen"], plainKeys := false, apart := false, narrowed := true }
def CardOnceUptoSaid : Prop := cardOnceUptoRow.holds Try.pinned (OpenSpec.upto cardOnceSpec)

/-- 'numnahlaw01.CardChecks', WHERE WHAT IT READS IS OF BULK AT MOST 1048576: true; the input reads as it did. -/
def cardChecksUptoRow : OpenClaim := { program := "ythpahlkhiknofaa", sum := "e1e35f8fd0ac6077e127ced18b573220268fab158c882c2ec3e6cad5c9a89f2f", func := "numnah/numnahlaw01.CardChecks", spec := "cardChecks", inPlace := ["internal/bytealg.abigen_runtime_cmpstring", "internal/bytealg.IndexByteString", "internal/bytealg.IndexString"], unfollowed := true, recurses := true, named := ["internal/bytealg.MaxLen"], plainKeys := false, apart := false, narrowed := true }
def CardChecksUptoSaid : Prop := cardChecksUptoRow.holds Try.pinned (OpenSpec.upto cardChecksSpec)

/-- 'numnahlaw01.CardTwice', WHERE WHAT IT READS IS OF BULK AT MOST 1048576: true; the input reads as it did. -/
def cardTwiceUptoRow : OpenClaim := { program := "ythpahlkhiknofaa", sum := "e1e35f8fd0ac6077e127ced18b573220268fab158c882c2ec3e6cad5c9a89f2f", func := "numnah/numnahlaw01.CardTwice", spec := "cardTwice", inPlace := ["internal/bytealg.IndexByteString", "internal/bytealg.IndexString", "internal/bytealg.abigen_runtime_cmpstring"], unfollowed := true, recurses := true, named := ["internal/bytealg.MaxLen"], plainKeys := false, apart := false, narrowed := true }
def CardTwiceUptoSaid : Prop := cardTwiceUptoRow.holds Try.pinned (OpenSpec.upto cardTwiceSpec)

/-- 'numnahlaw01.CardMeasured', WHERE WHAT IT READS IS OF BULK AT MOST 1048576: true; the input reads as it did. -/
def cardMeasuredUptoRow : OpenClaim := { program := "ythpahlkhiknofaa", sum := "e1e35f8fd0ac6077e127ced18b573220268fab158c882c2ec3e6cad5c9a89f2f", func := "numnah/numnahlaw01.CardMeasured", spec := "cardMeasured", inPlace := ["internal/bytealg.IndexByteString", "internal/bytealg.IndexString", "internal/bytealg.abigen_runtime_cmpstring"], unfollowed := true, recurses := true, named := ["internal/bytealg.MaxLen"], plainKeys := false, apart := false, narrowed := true }
def CardMeasuredUptoSaid : Prop := cardMeasuredUptoRow.holds Try.pinned (OpenSpec.upto cardMeasuredSpec)

/-- 'numnahlaw01.CardSums', WHERE WHAT IT READS IS OF BULK AT MOST 1048576: true; the input reads as it did. -/
def cardSumsUptoRow : OpenClaim := { program := "ythpahlkhiknofaa", sum := "e1e35f8fd0ac6077e127ced18b573220268fab158c882c2ec3e6cad5c9a89f2f", func := "numnah/numnahlaw01.CardSums", spec := "cardSums", inPlace := ["internal/bytealg.IndexByteString", "internal/bytealg.IndexString", "internal/bytealg.abigen_runtime_cmpstring"], unfollowed := true, recurses := true, named := ["internal/bytealg.MaxLen"], plainKeys := false, apart := false, narrowed := true }
def CardSumsUptoSaid : Prop := cardSumsUptoRow.holds Try.pinned (OpenSpec.upto cardSumsSpec)

/-- 'numnahlaw01.CardUnate', WHERE WHAT IT READS IS OF BULK AT MOST 1048576: true; the input reads as it did. -/
def cardUnateUptoRow : OpenClaim := { program := "ythpahlkhiknofaa", sum := "e1e35f8fd0ac6077e127ced18b573220268fab158c882c2ec3e6cad5c9a89f2f", func := "numnah/numnahlaw01.CardUnate", spec := "cardUnate", inPlace := ["internal/bytealg.IndexByteString", "internal/bytealg.IndexString", "internal/bytealg.abigen_runtime_cmpstring"], unfollowed := true, recurses := true, named := ["internal/bytealg.MaxLen"], plainKeys := false, apart := false, narrowed := true }
def CardUnateUptoSaid : Prop := cardUnateUptoRow.holds Try.pinned (OpenSpec.upto cardUnateSpec)

/-- 'numnahlaw01.CardTurned', WHERE WHAT IT READS IS OF BULK AT MOST 1048576: true; the input reads as it did. -/
def cardTurnedUptoRow : OpenClaim := { program := "ythpahlkhiknofaa", sum := "e1e35f8fd0ac6077e127ced18b573220268fab158c882c2ec3e6cad5c9a89f2f", func := "numnah/numnahlaw01.CardTurned", spec := "cardTurned", inPlace := ["internal/bytealg.abigen_runtime_cmpstring", "internal/bytealg.IndexByteString", "internal/bytealg.IndexString"], unfollowed := true, recurses := true, named := ["internal/bytealg.MaxLen"], plainKeys := false, apart := false, narrowed := true }
def CardTurnedUptoSaid : Prop := cardTurnedUptoRow.holds Try.pinned (OpenSpec.upto cardTurnedSpec)

end Rows
end Go.Proofs.Ythpahlkhiknofaa
