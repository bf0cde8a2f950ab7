/-
  No cell of these rows narrows 'for every input' (looked for: loops, veiled, ifaces, maps, wideKeys, modest, calm, conditions, laid).
  DERIVED. THE GIVEN ROWS OF THIS SEAT. 10 by the template 'for every input the law returns true; each argument reads behind the call as it read before'; 0 by the template 'total and deterministic' (their statements: YtikpnnblfhabjaaTotals.lean).
  GIVEN WITH THE SEED: the statements are not yours to turn. If you find one false, say at which input.
  Laid BY PROGRAM, IN A SANDBOX (cutbox-rows.mjs): the forced cells as the released guide's own fill.sh prints them over the translation a080133ad9788bbe… (all of the seat's roots in one cut). By AI agents, Wed Nov 11 2026. No macro, syntax, notation, axiom, sorry.
-/
import Derived.Test.YtikpnnblfhabjaaChecked
import GoSem.Claim
import GoSem.ClaimJoined
import GoSem.ClaimMapViews
import Derived.JoinedTies
import Derived.KernelRfl
namespace Go.Proofs.Ytikpnnblfhabjaa
/- THE CELL 'sum', in the pinned program and in every row, IS THE sha256 OF THE DUMP (.gsa) THAT YtikpnnblfhabjaaProg.lean LOADS. Nothing in Lean hashes anything: it is a label: what it is worth is what the hold of that sum in a sandbox is worth. -/
noncomputable def Try.pinned : Pinned := { name := "ytikpnnblfhabjaa", sum := "a080133ad9788bbe993d6334ce4f6d4f0506b6e018c08fa4fd8a1425587720e1", checked := Try.checked }
namespace Rows
def none {H : Type} : Left H := { results := [], args := [] }

/-- 'laws.FnExactSequenceMask': WHATEVER THE INPUT: true; the input reads as it did. -/
def fnExactSequenceMaskSpec : ChangeSpec := { name := "fnExactSequenceMask", fn := fun _ => fun
  | [d1, d2] => { results := [.lit (.bool true)], args := [d1, d2] }
  | _ => none }
def fnExactSequenceMaskRow : OpenClaim := { program := "ytikpnnblfhabjaa", sum := "a080133ad9788bbe993d6334ce4f6d4f0506b6e018c08fa4fd8a1425587720e1", func := "loop.example/g00509/laws.FnExactSequenceMask", spec := "fnExactSequenceMask", apart := false }
def FnExactSequenceMaskSaid : Prop := fnExactSequenceMaskRow.holds Try.pinned (OpenSpec.ofChange fnExactSequenceMaskSpec)

/-- ITS FALSE NEIGHBOUR: 'it returns false'. Refute it at one input. -/
def fnExactSequenceMaskWrong : ChangeSpec := { name := "fnExactSequenceMask", fn := fun _ => fun
  | [d1, d2] => { results := [.lit (.bool false)], args := [d1, d2] }
  | _ => none }
def FnExactSequenceMaskWrongFalsely : Prop := fnExactSequenceMaskRow.holds Try.pinned (OpenSpec.ofChange fnExactSequenceMaskWrong)

/-- 'laws.FnExactUnmaskSequence': WHATEVER THE INPUT: true; the input reads as it did. -/
def fnExactUnmaskSequenceSpec : ChangeSpec := { name := "fnExactUnmaskSequence", fn := fun _ => fun
  | [d1, d2, d3] => { results := [.lit (.bool true)], args := [d1, d2, d3] }
  | _ => none }
def fnExactUnmaskSequenceRow : OpenClaim := { program := "ytikpnnblfhabjaa", sum := "a080133ad9788bbe993d6334ce4f6d4f0506b6e018c08fa4fd8a1425587720e1", func := "loop.example/g00509/laws.FnExactUnmaskSequence", spec := "fnExactUnmaskSequence", apart := false }
def FnExactUnmaskSequenceSaid : Prop := fnExactUnmaskSequenceRow.holds Try.pinned (OpenSpec.ofChange fnExactUnmaskSequenceSpec)

/-- ITS FALSE NEIGHBOUR: 'it returns false'. Refute it at one input. -/
def fnExactUnmaskSequenceWrong : ChangeSpec := { name := "fnExactUnmaskSequence", fn := fun _ => fun
  | [d1, d2, d3] => { results := [.lit (.bool false)], args := [d1, d2, d3] }
  | _ => none }
def FnExactUnmaskSequenceWrongFalsely : Prop := fnExactUnmaskSequenceRow.holds Try.pinned (OpenSpec.ofChange fnExactUnmaskSequenceWrong)

/-- 'laws.FnExactResyncToken': WHATEVER THE INPUT: true; the input reads as it did. -/
def fnExactResyncTokenSpec : ChangeSpec := { name := "fnExactResyncToken", fn := fun _ => fun
  | [d1, d2, d3] => { results := [.lit (.bool true)], args := [d1, d2, d3] }
  | _ => none }
def fnExactResyncTokenRow : OpenClaim := { program := "ytikpnnblfhabjaa", sum := "a080133ad9788bbe993d6334ce4f6d4f0506b6e018c08fa4fd8a1425587720e1", func := "loop.example/g00509/laws.FnExactResyncToken", spec := "fnExactResyncToken", apart := false }
def FnExactResyncTokenSaid : Prop := fnExactResyncTokenRow.holds Try.pinned (OpenSpec.ofChange fnExactResyncTokenSpec)

/-- ITS FALSE NEIGHBOUR: 'it returns false'. Refute it at one input. -/
def fnExactResyncTokenWrong : ChangeSpec := { name := "fnExactResyncToken", fn := fun _ => fun
  | [d1, d2, d3] => { results := [.lit (.bool false)], args := [d1, d2, d3] }
  | _ => none }
def FnExactResyncTokenWrongFalsely : Prop := fnExactResyncTokenRow.holds Try.pinned (OpenSpec.ofChange fnExactResyncTokenWrong)

/-- 'laws.FnExactInSync': WHATEVER THE INPUT: true; the input reads as it did. -/
def fnExactInSyncSpec : ChangeSpec := { name := "fnExactInSync", fn := fun _ => fun
  | [d1, d2] => { results := [.lit (.bool true)], args := [d1, d2] }
  | _ => none }
def fnExactInSyncRow : OpenClaim := { program := "ytikpnnblfhabjaa", sum := "a080133ad9788bbe993d6334ce4f6d4f0506b6e018c08fa4fd8a1425587720e1", func := "loop.example/g00509/laws.FnExactInSync", spec := "fnExactInSync", apart := false }
def FnExactInSyncSaid : Prop := fnExactInSyncRow.holds Try.pinned (OpenSpec.ofChange fnExactInSyncSpec)

/-- ITS FALSE NEIGHBOUR: 'it returns false'. Refute it at one input. -/
def fnExactInSyncWrong : ChangeSpec := { name := "fnExactInSync", fn := fun _ => fun
  | [d1, d2] => { results := [.lit (.bool false)], args := [d1, d2] }
  | _ => none }
def FnExactInSyncWrongFalsely : Prop := fnExactInSyncRow.holds Try.pinned (OpenSpec.ofChange fnExactInSyncWrong)

/-- 'laws.FnExactParseResyncToken': WHATEVER THE INPUT: true; the input reads as it did. -/
def fnExactParseResyncTokenSpec : ChangeSpec := { name := "fnExactParseResyncToken", fn := fun _ => fun
  | [d1, d2, d3] => { results := [.lit (.bool true)], args := [d1, d2, d3] }
  | _ => none }
def fnExactParseResyncTokenRow : OpenClaim := { program := "ytikpnnblfhabjaa", sum := "a080133ad9788bbe993d6334ce4f6d4f0506b6e018c08fa4fd8a1425587720e1", func := "loop.example/g00509/laws.FnExactParseResyncToken", spec := "fnExactParseResyncToken", apart := false }
def FnExactParseResyncTokenSaid : Prop := fnExactParseResyncTokenRow.holds Try.pinned (OpenSpec.ofChange fnExactParseResyncTokenSpec)

/-- ITS FALSE NEIGHBOUR: 'it returns false'. Refute it at one input. -/
def fnExactParseResyncTokenWrong : ChangeSpec := { name := "fnExactParseResyncToken", fn := fun _ => fun
  | [d1, d2, d3] => { results := [.lit (.bool false)], args := [d1, d2, d3] }
  | _ => none }
def FnExactParseResyncTokenWrongFalsely : Prop := fnExactParseResyncTokenRow.holds Try.pinned (OpenSpec.ofChange fnExactParseResyncTokenWrong)

/-- 'laws.FnExactVerifyVector': WHATEVER THE INPUT: true; the input reads as it did. -/
def fnExactVerifyVectorSpec : ChangeSpec := { name := "fnExactVerifyVector", fn := fun _ => fun
  | [d1, d2, d3] => { results := [.lit (.bool true)], args := [d1, d2, d3] }
  | _ => none }
def fnExactVerifyVectorRow : OpenClaim := { program := "ytikpnnblfhabjaa", sum := "a080133ad9788bbe993d6334ce4f6d4f0506b6e018c08fa4fd8a1425587720e1", func := "loop.example/g00509/laws.FnExactVerifyVector", spec := "fnExactVerifyVector", apart := false }
def FnExactVerifyVectorSaid : Prop := fnExactVerifyVectorRow.holds Try.pinned (OpenSpec.ofChange fnExactVerifyVectorSpec)

/-- ITS FALSE NEIGHBOUR: 'it returns false'. Refute it at one input. -/
def fnExactVerifyVectorWrong : ChangeSpec := { name := "fnExactVerifyVector", fn := fun _ => fun
  | [d1, d2, d3] => { results := [.lit (.bool false)], args := [d1, d2, d3] }
  | _ => none }
def FnExactVerifyVectorWrongFalsely : Prop := fnExactVerifyVectorRow.holds Try.pinned (OpenSpec.ofChange fnExactVerifyVectorWrong)

/-- 'laws.FnResyncTokens': WHATEVER THE INPUT: true; the input reads as it did. -/
def fnResyncTokensSpec : ChangeSpec := { name := "fnResyncTokens", fn := fun _ => fun
  | [d] => { results := [.lit (.bool true)], args := [d] }
  | _ => none }
def fnResyncTokensRow : OpenClaim := { program := "ytikpnnblfhabjaa", sum := "a080133ad9788bbe993d6334ce4f6d4f0506b6e018c08fa4fd8a1425587720e1", func := "loop.example/g00509/laws.FnResyncTokens", spec := "fnResyncTokens", apart := false }
def FnResyncTokensSaid : Prop := fnResyncTokensRow.holds Try.pinned (OpenSpec.ofChange fnResyncTokensSpec)

/-- ITS FALSE NEIGHBOUR: 'it returns false'. Refute it at one input. -/
def fnResyncTokensWrong : ChangeSpec := { name := "fnResyncTokens", fn := fun _ => fun
  | [d] => { results := [.lit (.bool false)], args := [d] }
  | _ => none }
def FnResyncTokensWrongFalsely : Prop := fnResyncTokensRow.holds Try.pinned (OpenSpec.ofChange fnResyncTokensWrong)

/-- 'laws.FnExactNewAuthVector': WHATEVER THE INPUT: true; the input reads as it did. -/
def fnExactNewAuthVectorSpec : ChangeSpec := { name := "fnExactNewAuthVector", fn := fun _ => fun
  | [d1, d2, d3] => { results := [.lit (.bool true)], args := [d1, d2, d3] }
  | _ => none }
def fnExactNewAuthVectorRow : OpenClaim := { program := "ytikpnnblfhabjaa", sum := "a080133ad9788bbe993d6334ce4f6d4f0506b6e018c08fa4fd8a1425587720e1", func := "loop.example/g00509/laws.FnExactNewAuthVector", spec := "fnExactNewAuthVector", apart := false }
def FnExactNewAuthVectorSaid : Prop := fnExactNewAuthVectorRow.holds Try.pinned (OpenSpec.ofChange fnExactNewAuthVectorSpec)

/-- ITS FALSE NEIGHBOUR: 'it returns false'. Refute it at one input. -/
def fnExactNewAuthVectorWrong : ChangeSpec := { name := "fnExactNewAuthVector", fn := fun _ => fun
  | [d1, d2, d3] => { results := [.lit (.bool false)], args := [d1, d2, d3] }
  | _ => none }
def FnExactNewAuthVectorWrongFalsely : Prop := fnExactNewAuthVectorRow.holds Try.pinned (OpenSpec.ofChange fnExactNewAuthVectorWrong)

/-- 'laws.FnExactResynchronize': WHATEVER THE INPUT: true; the input reads as it did. -/
def fnExactResynchronizeSpec : ChangeSpec := { name := "fnExactResynchronize", fn := fun _ => fun
  | [d1, d2, d3] => { results := [.lit (.bool true)], args := [d1, d2, d3] }
  | _ => none }
def fnExactResynchronizeRow : OpenClaim := { program := "ytikpnnblfhabjaa", sum := "a080133ad9788bbe993d6334ce4f6d4f0506b6e018c08fa4fd8a1425587720e1", func := "loop.example/g00509/laws.FnExactResynchronize", spec := "fnExactResynchronize", apart := false }
def FnExactResynchronizeSaid : Prop := fnExactResynchronizeRow.holds Try.pinned (OpenSpec.ofChange fnExactResynchronizeSpec)

/-- ITS FALSE NEIGHBOUR: 'it returns false'. Refute it at one input. -/
def fnExactResynchronizeWrong : ChangeSpec := { name := "fnExactResynchronize", fn := fun _ => fun
  | [d1, d2, d3] => { results := [.lit (.bool false)], args := [d1, d2, d3] }
  | _ => none }
def FnExactResynchronizeWrongFalsely : Prop := fnExactResynchronizeRow.holds Try.pinned (OpenSpec.ofChange fnExactResynchronizeWrong)

/-- 'laws.FnExactNextAuthVector': WHATEVER THE INPUT: true; the input reads as it did. -/
def fnExactNextAuthVectorSpec : ChangeSpec := { name := "fnExactNextAuthVector", fn := fun _ => fun
  | [d1, d2] => { results := [.lit (.bool true)], args := [d1, d2] }
  | _ => none }
def fnExactNextAuthVectorRow : OpenClaim := { program := "ytikpnnblfhabjaa", sum := "a080133ad9788bbe993d6334ce4f6d4f0506b6e018c08fa4fd8a1425587720e1", func := "loop.example/g00509/laws.FnExactNextAuthVector", spec := "fnExactNextAuthVector", apart := false }
def FnExactNextAuthVectorSaid : Prop := fnExactNextAuthVectorRow.holds Try.pinned (OpenSpec.ofChange fnExactNextAuthVectorSpec)

/-- ITS FALSE NEIGHBOUR: 'it returns false'. Refute it at one input. -/
def fnExactNextAuthVectorWrong : ChangeSpec := { name := "fnExactNextAuthVector", fn := fun _ => fun
  | [d1, d2] => { results := [.lit (.bool false)], args := [d1, d2] }
  | _ => none }
def FnExactNextAuthVectorWrongFalsely : Prop := fnExactNextAuthVectorRow.holds Try.pinned (OpenSpec.ofChange fnExactNextAuthVectorWrong)

/- THE SECOND FORM. 'bulk': how many values and letters a reading holds, each counted each time it is reached (what is shared counts as often as it is met; a slice's spare places count too). A statement '..UptoSaid' is the law's where the arguments, and the package variables that the reading takes, are together of bulk at most 1048576: NARROWER than '..Said'. Prove '..Said' where nothing that the law and all that it calls make is longer than what came in: it says more and counts as full. Else prove '..UptoSaid'. A law counts once. -/
mutual
def uptoBulk {H : Type} : DataW H → Nat
  | .lit (.string bytes) => bytes.length + 1
  | .lit _ => 1
  | .nil => 1
  | .ptr d => uptoBulk d + 1
  | .slice elems spare => uptoBulkAll elems + uptoBulkAll spare + 1
  | .agg parts => uptoBulkAll parts + 1
  | .iface _ d => uptoBulk d + 1
  | .map entries => uptoBulkEntries entries + 1
  | .held _ => 1
def uptoBulkAll {H : Type} : List (DataW H) → Nat
  | [] => 0
  | d :: r => uptoBulk d + uptoBulkAll r
def uptoBulkEntries {H : Type} : List (Lit × DataW H) → Nat
  | [] => 0
  | x :: r => uptoBulkEntry x + uptoBulkEntries r
def uptoBulkEntry {H : Type} : Lit × DataW H → Nat
  | (.string bytes, d) => bytes.length + uptoBulk d + 1
  | (_, d) => uptoBulk d + 1
 end
def uptoSmall : (H : Type) → List (DataW H) → Bool := fun _ ds => decide (uptoBulkAll ds ≤ 1048576)
def OpenSpec.upto (s : _root_.Go.ChangeSpec) : _root_.Go.OpenSpec := { _root_.Go.OpenSpec.ofChange s with cond := some uptoSmall }

/-- 'laws.FnExactSequenceMask', WHERE WHAT IT READS IS OF BULK AT MOST 1048576: true; the input reads as it did. -/
def fnExactSequenceMaskUptoRow : OpenClaim := { program := "ytikpnnblfhabjaa", sum := "a080133ad9788bbe993d6334ce4f6d4f0506b6e018c08fa4fd8a1425587720e1", func := "loop.example/g00509/laws.FnExactSequenceMask", spec := "fnExactSequenceMask", apart := false, narrowed := true }
def FnExactSequenceMaskUptoSaid : Prop := fnExactSequenceMaskUptoRow.holds Try.pinned (OpenSpec.upto fnExactSequenceMaskSpec)

/-- 'laws.FnExactUnmaskSequence', WHERE WHAT IT READS IS OF BULK AT MOST 1048576: true; the input reads as it did. -/
def fnExactUnmaskSequenceUptoRow : OpenClaim := { program := "ytikpnnblfhabjaa", sum := "a080133ad9788bbe993d6334ce4f6d4f0506b6e018c08fa4fd8a1425587720e1", func := "loop.example/g00509/laws.FnExactUnmaskSequence", spec := "fnExactUnmaskSequence", apart := false, narrowed := true }
def FnExactUnmaskSequenceUptoSaid : Prop := fnExactUnmaskSequenceUptoRow.holds Try.pinned (OpenSpec.upto fnExactUnmaskSequenceSpec)

/-- 'laws.FnExactResyncToken', WHERE WHAT IT READS IS OF BULK AT MOST 1048576: true; the input reads as it did. -/
def fnExactResyncTokenUptoRow : OpenClaim := { program := "ytikpnnblfhabjaa", sum := "a080133ad9788bbe993d6334ce4f6d4f0506b6e018c08fa4fd8a1425587720e1", func := "loop.example/g00509/laws.FnExactResyncToken", spec := "fnExactResyncToken", apart := false, narrowed := true }
def FnExactResyncTokenUptoSaid : Prop := fnExactResyncTokenUptoRow.holds Try.pinned (OpenSpec.upto fnExactResyncTokenSpec)

/-- 'laws.FnExactInSync', WHERE WHAT IT READS IS OF BULK AT MOST 1048576: true; the input reads as it did. -/
def fnExactInSyncUptoRow : OpenClaim := { program := "ytikpnnblfhabjaa", sum := "a080133ad9788bbe993d6334ce4f6d4f0506b6e018c08fa4fd8a1425587720e1", func := "loop.example/g00509/laws.FnExactInSync", spec := "fnExactInSync", apart := false, narrowed := true }
def FnExactInSyncUptoSaid : Prop := fnExactInSyncUptoRow.holds Try.pinned (OpenSpec.upto fnExactInSyncSpec)

/-- 'laws.FnExactParseResyncToken', WHERE WHAT IT READS IS OF BULK AT MOST 1048576: true; the input reads as it did. -/
def fnExactParseResyncTokenUptoRow : OpenClaim := { program := "ytikpnnblfhabjaa", sum := "a080133ad9788bbe993d6334ce4f6d4f0506b6e018c08fa4fd8a1425587720e1", func := "loop.example/g00509/laws.FnExactParseResyncToken", spec := "fnExactParseResyncToken", apart := false, narrowed := true }
def FnExactParseResyncTokenUptoSaid : Prop := fnExactParseResyncTokenUptoRow.holds Try.pinned (OpenSpec.upto fnExactParseResyncTokenSpec)

/-- 'laws.FnExactVerifyVector', WHERE WHAT IT READS IS OF BULK AT MOST 1048576: true; the input reads as it did. -/
def fnExactVerifyVectorUptoRow : OpenClaim := { program := "ytikpnnblfhabjaa", sum := "a080133ad9788bbe993d6334ce4f6d4f0506b6e018c08fa4fd8a1425587720e1", func := "loop.example/g00509/laws.FnExactVerifyVector", spec := "fnExactVerifyVector", apart := false, narrowed := true }
def FnExactVerifyVectorUptoSaid : Prop := fnExactVerifyVectorUptoRow.holds Try.pinned (OpenSpec.upto fnExactVerifyVectorSpec)

/-- 'laws.FnResyncTokens', WHERE WHAT IT READS IS OF BULK AT MOST 1048576: true; the input reads as it did. -/
def fnResyncTokensUptoRow : OpenClaim := { program := "ytikpnnblfhabjaa", sum := "a080133ad9788bbe993d6334ce4f6d4f0506b6e018c08fa4fd8a1425587720e1", func := "loop.example/g00509/laws.FnResyncTokens", spec := "fnResyncTokens", apart := false, narrowed := true }
def FnResyncTokensUptoSaid : Prop := fnResyncTokensUptoRow.holds Try.pinned (OpenSpec.upto fnResyncTokensSpec)

/-- 'laws.FnExactNewAuthVector', WHERE WHAT IT READS IS OF BULK AT MOST 1048576: true; the input reads as it did. -/
def fnExactNewAuthVectorUptoRow : OpenClaim := { program := "ytikpnnblfhabjaa", sum := "a080133ad9788bbe993d6334ce4f6d4f0506b6e018c08fa4fd8a1425587720e1", func := "loop.example/g00509/laws.FnExactNewAuthVector", spec := "fnExactNewAuthVector", apart := false, narrowed := true }
def FnExactNewAuthVectorUptoSaid : Prop := fnExactNewAuthVectorUptoRow.holds Try.pinned (OpenSpec.upto fnExactNewAuthVectorSpec)

/-- 'laws.FnExactResynchronize', WHERE WHAT IT READS IS OF BULK AT MOST 1048576: true; the input reads as it did. -/
def fnExactResynchronizeUptoRow : OpenClaim := { program := "ytikpnnblfhabjaa", sum := "a080133ad9788bbe993d6334ce4f6d4f0506b6e018c08fa4fd8a1425587720e1", func := "loop.example/g00509/laws.FnExactResynchronize", spec := "fnExactResynchronize", apart := false, narrowed := true }
def FnExactResynchronizeUptoSaid : Prop := fnExactResynchronizeUptoRow.holds Try.pinned (OpenSpec.upto fnExactResynchronizeSpec)

/-- 'laws.FnExactNextAuthVector', WHERE WHAT IT READS IS OF BULK AT MOST 1048576: true; the input reads as it did. -/
def fnExactNextAuthVectorUptoRow : OpenClaim := { program := "ytikpnnblfhabjaa", sum := "a080133ad9788bbe993d6334ce4f6d4f0506b6e018c08fa4fd8a1425587720e1", func := "loop.example/g00509/laws.FnExactNextAuthVector", spec := "fnExactNextAuthVector", apart := false, narrowed := true }
def FnExactNextAuthVectorUptoSaid : Prop := fnExactNextAuthVectorUptoRow.holds Try.pinned (OpenSpec.upto fnExactNextAuthVectorSpec)

end Rows
end Go.Proofs.Ytikpnnblfhabjaa
