/-
  No cell of these rows narrows 'for every input' (looked for: loops, veiled, ifaces, maps, wideKeys, modest, calm, conditions, laid).
  DERIVED. THE GIVEN ROWS OF THIS SEAT. 7 by the template 'for every input the law returns true; each argument reads behind the call as it read before'; 0 by the template 'total and deterministic' (their statements: YthonjmkigigcdaaTotals.lean).
  GIVEN WITH THE SEED: the statements are not yours to turn. If you find one false, say at which input.
  Laid BY PROGRAM, IN A SANDBOX (cutbox-rows.mjs): the forced cells as the released guide's own fill.sh prints them over the translation dd70c7576fb1b594… (all of the seat's roots in one cut). By AI agents, Wed Nov 11 2026. No macro, syntax, notation, axiom, sorry.
-/
import Derived.Test.YthonjmkigigcdaaChecked
import GoSem.Claim
import GoSem.ClaimJoined
import GoSem.ClaimMapViews
import Derived.JoinedTies
import Derived.KernelRfl
namespace Go.Proofs.Ythonjmkigigcdaa
/- THE CELL 'sum', in the pinned program and in every row, IS THE sha256 OF THE DUMP (.gsa) THAT YthonjmkigigcdaaProg.lean LOADS. Nothing in Lean hashes anything: it is a label: what it is worth is what the hold of that sum in a sandbox is worth. -/
noncomputable def Try.pinned : Pinned := { name := "ythonjmkigigcdaa", sum := "dd70c7576fb1b5947cbcc499637f5dd1ffc1be6a16782ebe9b0329efe37b781e", checked := Try.checked }
namespace Rows
def none {H : Type} : Left H := { results := [], args := [] }

/-- 'laws.FnExactRadioKeyPath': WHATEVER THE INPUT: true; the input reads as it did. -/
def fnExactRadioKeyPathSpec : ChangeSpec := { name := "fnExactRadioKeyPath", fn := fun _ => fun
  | [d] => { results := [.lit (.bool true)], args := [d] }
  | _ => none }
def fnExactRadioKeyPathRow : OpenClaim := { program := "ythonjmkigigcdaa", sum := "dd70c7576fb1b5947cbcc499637f5dd1ffc1be6a16782ebe9b0329efe37b781e", func := "loop.example/g00509/laws.FnExactRadioKeyPath", spec := "fnExactRadioKeyPath", apart := false }
def FnExactRadioKeyPathSaid : Prop := fnExactRadioKeyPathRow.holds Try.pinned (OpenSpec.ofChange fnExactRadioKeyPathSpec)

/-- ITS FALSE NEIGHBOUR: 'it returns false'. Refute it at one input. -/
def fnExactRadioKeyPathWrong : ChangeSpec := { name := "fnExactRadioKeyPath", fn := fun _ => fun
  | [d] => { results := [.lit (.bool false)], args := [d] }
  | _ => none }
def FnExactRadioKeyPathWrongFalsely : Prop := fnExactRadioKeyPathRow.holds Try.pinned (OpenSpec.ofChange fnExactRadioKeyPathWrong)

/-- 'laws.FnExactSignalingKeyPath': WHATEVER THE INPUT: true; the input reads as it did. -/
def fnExactSignalingKeyPathSpec : ChangeSpec := { name := "fnExactSignalingKeyPath", fn := fun _ => fun
  | [] => { results := [.lit (.bool true)], args := [] }
  | _ => none }
def fnExactSignalingKeyPathRow : OpenClaim := { program := "ythonjmkigigcdaa", sum := "dd70c7576fb1b5947cbcc499637f5dd1ffc1be6a16782ebe9b0329efe37b781e", func := "loop.example/g00509/laws.FnExactSignalingKeyPath", spec := "fnExactSignalingKeyPath", apart := false }
def FnExactSignalingKeyPathSaid : Prop := fnExactSignalingKeyPathRow.holds Try.pinned (OpenSpec.ofChange fnExactSignalingKeyPathSpec)

/-- ITS FALSE NEIGHBOUR: 'it returns false'. Refute it at one input. -/
def fnExactSignalingKeyPathWrong : ChangeSpec := { name := "fnExactSignalingKeyPath", fn := fun _ => fun
  | [] => { results := [.lit (.bool false)], args := [] }
  | _ => none }
def FnExactSignalingKeyPathWrongFalsely : Prop := fnExactSignalingKeyPathRow.holds Try.pinned (OpenSpec.ofChange fnExactSignalingKeyPathWrong)

/-- 'laws.FnExactDeriveKey': WHATEVER THE INPUT: true; the input reads as it did. -/
def fnExactDeriveKeySpec : ChangeSpec := { name := "fnExactDeriveKey", fn := fun _ => fun
  | [d1, d2] => { results := [.lit (.bool true)], args := [d1, d2] }
  | _ => none }
def fnExactDeriveKeyRow : OpenClaim := { program := "ythonjmkigigcdaa", sum := "dd70c7576fb1b5947cbcc499637f5dd1ffc1be6a16782ebe9b0329efe37b781e", func := "loop.example/g00509/laws.FnExactDeriveKey", spec := "fnExactDeriveKey", apart := false }
def FnExactDeriveKeySaid : Prop := fnExactDeriveKeyRow.holds Try.pinned (OpenSpec.ofChange fnExactDeriveKeySpec)

/-- ITS FALSE NEIGHBOUR: 'it returns false'. Refute it at one input. -/
def fnExactDeriveKeyWrong : ChangeSpec := { name := "fnExactDeriveKey", fn := fun _ => fun
  | [d1, d2] => { results := [.lit (.bool false)], args := [d1, d2] }
  | _ => none }
def FnExactDeriveKeyWrongFalsely : Prop := fnExactDeriveKeyRow.holds Try.pinned (OpenSpec.ofChange fnExactDeriveKeyWrong)

/-- 'laws.FnExactIsValidKeyPath': WHATEVER THE INPUT: true; the input reads as it did. -/
def fnExactIsValidKeyPathSpec : ChangeSpec := { name := "fnExactIsValidKeyPath", fn := fun _ => fun
  | [d] => { results := [.lit (.bool true)], args := [d] }
  | _ => none }
def fnExactIsValidKeyPathRow : OpenClaim := { program := "ythonjmkigigcdaa", sum := "dd70c7576fb1b5947cbcc499637f5dd1ffc1be6a16782ebe9b0329efe37b781e", func := "loop.example/g00509/laws.FnExactIsValidKeyPath", spec := "fnExactIsValidKeyPath", apart := false }
def FnExactIsValidKeyPathSaid : Prop := fnExactIsValidKeyPathRow.holds Try.pinned (OpenSpec.ofChange fnExactIsValidKeyPathSpec)

/-- ITS FALSE NEIGHBOUR: 'it returns false'. Refute it at one input. -/
def fnExactIsValidKeyPathWrong : ChangeSpec := { name := "fnExactIsValidKeyPath", fn := fun _ => fun
  | [d] => { results := [.lit (.bool false)], args := [d] }
  | _ => none }
def FnExactIsValidKeyPathWrongFalsely : Prop := fnExactIsValidKeyPathRow.holds Try.pinned (OpenSpec.ofChange fnExactIsValidKeyPathWrong)

/-- 'laws.FnExactIsPrefixPath': WHATEVER THE INPUT: true; the input reads as it did. -/
def fnExactIsPrefixPathSpec : ChangeSpec := { name := "fnExactIsPrefixPath", fn := fun _ => fun
  | [d1, d2] => { results := [.lit (.bool true)], args := [d1, d2] }
  | _ => none }
def fnExactIsPrefixPathRow : OpenClaim := { program := "ythonjmkigigcdaa", sum := "dd70c7576fb1b5947cbcc499637f5dd1ffc1be6a16782ebe9b0329efe37b781e", func := "loop.example/g00509/laws.FnExactIsPrefixPath", spec := "fnExactIsPrefixPath", apart := false }
def FnExactIsPrefixPathSaid : Prop := fnExactIsPrefixPathRow.holds Try.pinned (OpenSpec.ofChange fnExactIsPrefixPathSpec)

/-- ITS FALSE NEIGHBOUR: 'it returns false'. Refute it at one input. -/
def fnExactIsPrefixPathWrong : ChangeSpec := { name := "fnExactIsPrefixPath", fn := fun _ => fun
  | [d1, d2] => { results := [.lit (.bool false)], args := [d1, d2] }
  | _ => none }
def FnExactIsPrefixPathWrongFalsely : Prop := fnExactIsPrefixPathRow.holds Try.pinned (OpenSpec.ofChange fnExactIsPrefixPathWrong)

/-- 'laws.FnExactRadioKey': WHATEVER THE INPUT: true; the input reads as it did. -/
def fnExactRadioKeySpec : ChangeSpec := { name := "fnExactRadioKey", fn := fun _ => fun
  | [d1, d2] => { results := [.lit (.bool true)], args := [d1, d2] }
  | _ => none }
def fnExactRadioKeyRow : OpenClaim := { program := "ythonjmkigigcdaa", sum := "dd70c7576fb1b5947cbcc499637f5dd1ffc1be6a16782ebe9b0329efe37b781e", func := "loop.example/g00509/laws.FnExactRadioKey", spec := "fnExactRadioKey", apart := false }
def FnExactRadioKeySaid : Prop := fnExactRadioKeyRow.holds Try.pinned (OpenSpec.ofChange fnExactRadioKeySpec)

/-- ITS FALSE NEIGHBOUR: 'it returns false'. Refute it at one input. -/
def fnExactRadioKeyWrong : ChangeSpec := { name := "fnExactRadioKey", fn := fun _ => fun
  | [d1, d2] => { results := [.lit (.bool false)], args := [d1, d2] }
  | _ => none }
def FnExactRadioKeyWrongFalsely : Prop := fnExactRadioKeyRow.holds Try.pinned (OpenSpec.ofChange fnExactRadioKeyWrong)

/-- 'laws.FnKeySeparation': WHATEVER THE INPUT: true; the input reads as it did. -/
def fnKeySeparationSpec : ChangeSpec := { name := "fnKeySeparation", fn := fun _ => fun
  | [d] => { results := [.lit (.bool true)], args := [d] }
  | _ => none }
def fnKeySeparationRow : OpenClaim := { program := "ythonjmkigigcdaa", sum := "dd70c7576fb1b5947cbcc499637f5dd1ffc1be6a16782ebe9b0329efe37b781e", func := "loop.example/g00509/laws.FnKeySeparation", spec := "fnKeySeparation", apart := false }
def FnKeySeparationSaid : Prop := fnKeySeparationRow.holds Try.pinned (OpenSpec.ofChange fnKeySeparationSpec)

/-- ITS FALSE NEIGHBOUR: 'it returns false'. Refute it at one input. -/
def fnKeySeparationWrong : ChangeSpec := { name := "fnKeySeparation", fn := fun _ => fun
  | [d] => { results := [.lit (.bool false)], args := [d] }
  | _ => none }
def FnKeySeparationWrongFalsely : Prop := fnKeySeparationRow.holds Try.pinned (OpenSpec.ofChange fnKeySeparationWrong)

/- THE SECOND FORM. 'bulk': how many values and letters a reading holds, each counted each time it is reached (what is shared counts as often as it is met; a slice's spare places count too). A statement '..UptoSaid' is the law's where the arguments, and the package variables that the reading takes, are together of bulk at most 1048576: NARROWER than '..Said'. Prove '..Said' where nothing that the law and all that it calls make is longer than what came in: it says more and counts as full. Else prove '..UptoSaid'. A law counts once. -/
mutual
def uptoBulk {H : Type} : DataW H → Nat
  | .lit (.string bytes) => bytes.length + 1
  | .lit _ => 1
  | .nil => 1
  | .ptr d => uptoBulk d + 1
  | .slice elems spare => uptoBulkAll elems + uptoBulkAll spare + 1
  | .agg parts => uptoBulkAll parts + 1
  | .iface _ d => uptoBulk d + 1
  | .map entries => uptoBulkEntries entries + 1
  | .held _ => 1
def uptoBulkAll {H : Type} : List (DataW H) → Nat
  | [] => 0
  | d :: r => uptoBulk d + uptoBulkAll r
def uptoBulkEntries {H : Type} : List (Lit × DataW H) → Nat
  | [] => 0
  | x :: r => uptoBulkEntry x + uptoBulkEntries r
def uptoBulkEntry {H : Type} : Lit × DataW H → Nat
  | (.string bytes, d) => bytes.length + uptoBulk d + 1
  | (_, d) => uptoBulk d + 1
 end
def uptoSmall : (H : Type) → List (DataW H) → Bool := fun _ ds => decide (uptoBulkAll ds ≤ 1048576)
def OpenSpec.upto (s : _root_.Go.ChangeSpec) : _root_.Go.OpenSpec := { _root_.Go.OpenSpec.ofChange s with cond := some uptoSmall }

/-- 'laws.FnExactRadioKeyPath', WHERE WHAT IT READS IS OF BULK AT MOST 1048576: true; the input reads as it did. -/
def fnExactRadioKeyPathUptoRow : OpenClaim := { program := "ythonjmkigigcdaa", sum := "dd70c7576fb1b5947cbcc499637f5dd1ffc1be6a16782ebe9b0329efe37b781e", func := "loop.example/g00509/laws.FnExactRadioKeyPath", spec := "fnExactRadioKeyPath", apart := false, narrowed := true }
def FnExactRadioKeyPathUptoSaid : Prop := fnExactRadioKeyPathUptoRow.holds Try.pinned (OpenSpec.upto fnExactRadioKeyPathSpec)

/-- 'laws.FnExactSignalingKeyPath', WHERE WHAT IT READS IS OF BULK AT MOST 1048576: true; the input reads as it did. -/
def fnExactSignalingKeyPathUptoRow : OpenClaim := { program := "ythonjmkigigcdaa", sum := "dd70c7576fb1b5947cbcc499637f5dd1ffc1be6a16782ebe9b0329efe37b781e", func := "loop.example/g00509/laws.FnExactSignalingKeyPath", spec := "fnExactSignalingKeyPath", apart := false, narrowed := true }
def FnExactSignalingKeyPathUptoSaid : Prop := fnExactSignalingKeyPathUptoRow.holds Try.pinned (OpenSpec.upto fnExactSignalingKeyPathSpec)

/-- 'laws.FnExactDeriveKey', WHERE WHAT IT READS IS OF BULK AT MOST 1048576: true; the input reads as it did. -/
def fnExactDeriveKeyUptoRow : OpenClaim := { program := "ythonjmkigigcdaa", sum := "dd70c7576fb1b5947cbcc499637f5dd1ffc1be6a16782ebe9b0329efe37b781e", func := "loop.example/g00509/laws.FnExactDeriveKey", spec := "fnExactDeriveKey", apart := false, narrowed := true }
def FnExactDeriveKeyUptoSaid : Prop := fnExactDeriveKeyUptoRow.holds Try.pinned (OpenSpec.upto fnExactDeriveKeySpec)

/-- 'laws.FnExactIsValidKeyPath', WHERE WHAT IT READS IS OF BULK AT MOST 1048576: true; the input reads as it did. -/
def fnExactIsValidKeyPathUptoRow : OpenClaim := { program := "ythonjmkigigcdaa", sum := "dd70c7576fb1b5947cbcc499637f5dd1ffc1be6a16782ebe9b0329efe37b781e", func := "loop.example/g00509/laws.FnExactIsValidKeyPath", spec := "fnExactIsValidKeyPath", apart := false, narrowed := true }
def FnExactIsValidKeyPathUptoSaid : Prop := fnExactIsValidKeyPathUptoRow.holds Try.pinned (OpenSpec.upto fnExactIsValidKeyPathSpec)

/-- 'laws.FnExactIsPrefixPath', WHERE WHAT IT READS IS OF BULK AT MOST 1048576: true; the input reads as it did. -/
def fnExactIsPrefixPathUptoRow : OpenClaim := { program := "ythonjmkigigcdaa", sum := "dd70c7576fb1b5947cbcc499637f5dd1ffc1be6a16782ebe9b0329efe37b781e", func := "loop.example/g00509/laws.FnExactIsPrefixPath", spec := "fnExactIsPrefixPath", apart := false, narrowed := true }
def FnExactIsPrefixPathUptoSaid : Prop := fnExactIsPrefixPathUptoRow.holds Try.pinned (OpenSpec.upto fnExactIsPrefixPathSpec)

/-- 'laws.FnExactRadioKey', WHERE WHAT IT READS IS OF BULK AT MOST 1048576: true; the input reads as it did. -/
def fnExactRadioKeyUptoRow : OpenClaim := { program := "ythonjmkigigcdaa", sum := "dd70c7576fb1b5947cbcc499637f5dd1ffc1be6a16782ebe9b0329efe37b781e", func := "loop.example/g00509/laws.FnExactRadioKey", spec := "fnExactRadioKey", apart := false, narrowed := true }
def FnExactRadioKeyUptoSaid : Prop := fnExactRadioKeyUptoRow.holds Try.pinned (OpenSpec.upto fnExactRadioKeySpec)

/-- 'laws.FnKeySeparation', WHERE WHAT IT READS IS OF BULK AT MOST 1048576: true; the input reads as it did. -/
def fnKeySeparationUptoRow : OpenClaim := { program := "ythonjmkigigcdaa", sum := "dd70c7576fb1b5947cbcc499637f5dd1ffc1be6a16782ebe9b0329efe37b781e", func := "loop.example/g00509/laws.FnKeySeparation", spec := "fnKeySeparation", apart := false, narrowed := true }
def FnKeySeparationUptoSaid : Prop := fnKeySeparationUptoRow.holds Try.pinned (OpenSpec.upto fnKeySeparationSpec)

end Rows
end Go.Proofs.Ythonjmkigigcdaa
