/-
  No cell of these rows narrows 'for every input' (looked for: loops, veiled, ifaces, maps, wideKeys, modest, calm, conditions, laid).
  DERIVED. THE GIVEN ROWS OF THIS SEAT. 5 by the template 'for every input the law returns true; each argument reads behind the call as it read before'; 0 by the template 'total and deterministic' (their statements: YtfenmicakmjelaaTotals.lean).
  GIVEN WITH THE SEED: the statements are not yours to turn. If you find one false, say at which input.
  Laid BY PROGRAM, IN A SANDBOX (cutbox-rows.mjs): the forced cells as the released guide's own fill.sh prints them over the translation ed90491b9f57ee57… (all of the seat's roots in one cut). By AI agents, Wed Nov 11 2026. No macro, syntax, notation, axiom, sorry.
-/
import Derived.Test.YtfenmicakmjelaaChecked
import GoSem.Claim
import GoSem.ClaimJoined
import GoSem.ClaimMapViews
import Derived.JoinedTies
import Derived.KernelRfl
namespace Go.Proofs.Ytfenmicakmjelaa
/- THE CELL 'sum', in the pinned program and in every row, IS THE sha256 OF THE DUMP (.gsa) THAT YtfenmicakmjelaaProg.lean LOADS. Nothing in Lean hashes anything: it is a label: what it is worth is what the hold of that sum in a sandbox is worth. -/
noncomputable def Try.pinned : Pinned := { name := "ytfenmicakmjelaa", sum := "ed90491b9f57ee574606aa39784f010bea69e392ee89d71fa9f018fe32880ddf", checked := Try.checked }
namespace Rows
def none {H : Type} : Left H := { results := [], args := [] }

/-- 'laws.FnExactAuthenticate': WHATEVER THE INPUT: true; the input reads as it did. -/
def fnExactAuthenticateSpec : ChangeSpec := { name := "fnExactAuthenticate", fn := fun _ => fun
  | [d1, d2, d3] => { results := [.lit (.bool true)], args := [d1, d2, d3] }
  | _ => none }
def fnExactAuthenticateRow : OpenClaim := { program := "ytfenmicakmjelaa", sum := "ed90491b9f57ee574606aa39784f010bea69e392ee89d71fa9f018fe32880ddf", func := "loop.example/g00509/laws.FnExactAuthenticate", spec := "fnExactAuthenticate", apart := false }
def FnExactAuthenticateSaid : Prop := fnExactAuthenticateRow.holds Try.pinned (OpenSpec.ofChange fnExactAuthenticateSpec)

/-- ITS FALSE NEIGHBOUR: 'it returns false'. Refute it at one input. -/
def fnExactAuthenticateWrong : ChangeSpec := { name := "fnExactAuthenticate", fn := fun _ => fun
  | [d1, d2, d3] => { results := [.lit (.bool false)], args := [d1, d2, d3] }
  | _ => none }
def FnExactAuthenticateWrongFalsely : Prop := fnExactAuthenticateRow.holds Try.pinned (OpenSpec.ofChange fnExactAuthenticateWrong)

/-- 'laws.FnChallenge': WHATEVER THE INPUT: true; the input reads as it did. -/
def fnChallengeSpec : ChangeSpec := { name := "fnChallenge", fn := fun _ => fun
  | [d] => { results := [.lit (.bool true)], args := [d] }
  | _ => none }
def fnChallengeRow : OpenClaim := { program := "ytfenmicakmjelaa", sum := "ed90491b9f57ee574606aa39784f010bea69e392ee89d71fa9f018fe32880ddf", func := "loop.example/g00509/laws.FnChallenge", spec := "fnChallenge", apart := false }
def FnChallengeSaid : Prop := fnChallengeRow.holds Try.pinned (OpenSpec.ofChange fnChallengeSpec)

/-- ITS FALSE NEIGHBOUR: 'it returns false'. Refute it at one input. -/
def fnChallengeWrong : ChangeSpec := { name := "fnChallenge", fn := fun _ => fun
  | [d] => { results := [.lit (.bool false)], args := [d] }
  | _ => none }
def FnChallengeWrongFalsely : Prop := fnChallengeRow.holds Try.pinned (OpenSpec.ofChange fnChallengeWrong)

/-- 'laws.FnAuthentication': WHATEVER THE INPUT: true; the input reads as it did. -/
def fnAuthenticationSpec : ChangeSpec := { name := "fnAuthentication", fn := fun _ => fun
  | [d] => { results := [.lit (.bool true)], args := [d] }
  | _ => none }
def fnAuthenticationRow : OpenClaim := { program := "ytfenmicakmjelaa", sum := "ed90491b9f57ee574606aa39784f010bea69e392ee89d71fa9f018fe32880ddf", func := "loop.example/g00509/laws.FnAuthentication", spec := "fnAuthentication", apart := false }
def FnAuthenticationSaid : Prop := fnAuthenticationRow.holds Try.pinned (OpenSpec.ofChange fnAuthenticationSpec)

/-- ITS FALSE NEIGHBOUR: 'it returns false'. Refute it at one input. -/
def fnAuthenticationWrong : ChangeSpec := { name := "fnAuthentication", fn := fun _ => fun
  | [d] => { results := [.lit (.bool false)], args := [d] }
  | _ => none }
def FnAuthenticationWrongFalsely : Prop := fnAuthenticationRow.holds Try.pinned (OpenSpec.ofChange fnAuthenticationWrong)

/-- 'laws.FnExactRespondToChallenge': WHATEVER THE INPUT: true; the input reads as it did. -/
def fnExactRespondToChallengeSpec : ChangeSpec := { name := "fnExactRespondToChallenge", fn := fun _ => fun
  | [d1, d2] => { results := [.lit (.bool true)], args := [d1, d2] }
  | _ => none }
def fnExactRespondToChallengeRow : OpenClaim := { program := "ytfenmicakmjelaa", sum := "ed90491b9f57ee574606aa39784f010bea69e392ee89d71fa9f018fe32880ddf", func := "loop.example/g00509/laws.FnExactRespondToChallenge", spec := "fnExactRespondToChallenge", apart := false }
def FnExactRespondToChallengeSaid : Prop := fnExactRespondToChallengeRow.holds Try.pinned (OpenSpec.ofChange fnExactRespondToChallengeSpec)

/-- ITS FALSE NEIGHBOUR: 'it returns false'. Refute it at one input. -/
def fnExactRespondToChallengeWrong : ChangeSpec := { name := "fnExactRespondToChallenge", fn := fun _ => fun
  | [d1, d2] => { results := [.lit (.bool false)], args := [d1, d2] }
  | _ => none }
def FnExactRespondToChallengeWrongFalsely : Prop := fnExactRespondToChallengeRow.holds Try.pinned (OpenSpec.ofChange fnExactRespondToChallengeWrong)

/-- 'laws.FnCardResponses': WHATEVER THE INPUT: true; the input reads as it did. -/
def fnCardResponsesSpec : ChangeSpec := { name := "fnCardResponses", fn := fun _ => fun
  | [d] => { results := [.lit (.bool true)], args := [d] }
  | _ => none }
def fnCardResponsesRow : OpenClaim := { program := "ytfenmicakmjelaa", sum := "ed90491b9f57ee574606aa39784f010bea69e392ee89d71fa9f018fe32880ddf", func := "loop.example/g00509/laws.FnCardResponses", spec := "fnCardResponses", apart := false }
def FnCardResponsesSaid : Prop := fnCardResponsesRow.holds Try.pinned (OpenSpec.ofChange fnCardResponsesSpec)

/-- ITS FALSE NEIGHBOUR: 'it returns false'. Refute it at one input. -/
def fnCardResponsesWrong : ChangeSpec := { name := "fnCardResponses", fn := fun _ => fun
  | [d] => { results := [.lit (.bool false)], args := [d] }
  | _ => none }
def FnCardResponsesWrongFalsely : Prop := fnCardResponsesRow.holds Try.pinned (OpenSpec.ofChange fnCardResponsesWrong)

/- THE SECOND FORM. 'bulk': how many values and letters a reading holds, each counted each time it is reached (what is shared counts as often as it is met; a slice's spare places count too). A statement '..UptoSaid' is the law's where the arguments, and the package variables that the reading takes, are together of bulk at most 1048576: NARROWER than '..Said'. Prove '..Said' where nothing that the law and all that it calls make is longer than what came in: it says more and counts as full. Else prove '..UptoSaid'. A law counts once. -/
mutual
def uptoBulk {H : Type} : DataW H → Nat
  | .lit (.string bytes) => bytes.length + 1
  | .lit _ => 1
  | .nil => 1
  | .ptr d => uptoBulk d + 1
  | .slice elems spare => uptoBulkAll elems + uptoBulkAll spare + 1
  | .agg parts => uptoBulkAll parts + 1
  | .iface _ d => uptoBulk d + 1
  | .map entries => uptoBulkEntries entries + 1
  | .held _ => 1
def uptoBulkAll {H : Type} : List (DataW H) → Nat
  | [] => 0
  | d :: r => uptoBulk d + uptoBulkAll r
def uptoBulkEntries {H : Type} : List (Lit × DataW H) → Nat
  | [] => 0
  | x :: r => uptoBulkEntry x + uptoBulkEntries r
def uptoBulkEntry {H : Type} : Lit × DataW H → Nat
  | (.string bytes, d) => bytes.length + uptoBulk d + 1
  | (_, d) => uptoBulk d + 1
 end
def uptoSmall : (H : Type) → List (DataW H) → Bool := fun _ ds => decide (uptoBulkAll ds ≤ 1048576)
def OpenSpec.upto (s : _root_.Go.ChangeSpec) : _root_.Go.OpenSpec := { _root_.Go.OpenSpec.ofChange s with cond := some uptoSmall }

/-- 'laws.FnExactAuthenticate', WHERE WHAT IT READS IS OF BULK AT MOST 1048576: true; the input reads as it did. -/
def fnExactAuthenticateUptoRow : OpenClaim := { program := "ytfenmicakmjelaa", sum := "ed90491b9f57ee574606aa39784f010bea69e392ee89d71fa9f018fe32880ddf", func := "loop.example/g00509/laws.FnExactAuthenticate", spec := "fnExactAuthenticate", apart := false, narrowed := true }
def FnExactAuthenticateUptoSaid : Prop := fnExactAuthenticateUptoRow.holds Try.pinned (OpenSpec.upto fnExactAuthenticateSpec)

/-- 'laws.FnChallenge', WHERE WHAT IT READS IS OF BULK AT MOST 1048576: true; the input reads as it did. -/
def fnChallengeUptoRow : OpenClaim := { program := "ytfenmicakmjelaa", sum := "ed90491b9f57ee574606aa39784f010bea69e392ee89d71fa9f018fe32880ddf", func := "loop.example/g00509/laws.FnChallenge", spec := "fnChallenge", apart := false, narrowed := true }
def FnChallengeUptoSaid : Prop := fnChallengeUptoRow.holds Try.pinned (OpenSpec.upto fnChallengeSpec)

/-- 'laws.FnAuthentication', WHERE WHAT IT READS IS OF BULK AT MOST 1048576: true; the input reads as it did. -/
def fnAuthenticationUptoRow : OpenClaim := { program := "ytfenmicakmjelaa", sum := "ed90491b9f57ee574606aa39784f010bea69e392ee89d71fa9f018fe32880ddf", func := "loop.example/g00509/laws.FnAuthentication", spec := "fnAuthentication", apart := false, narrowed := true }
def FnAuthenticationUptoSaid : Prop := fnAuthenticationUptoRow.holds Try.pinned (OpenSpec.upto fnAuthenticationSpec)

/-- 'laws.FnExactRespondToChallenge', WHERE WHAT IT READS IS OF BULK AT MOST 1048576: true; the input reads as it did. -/
def fnExactRespondToChallengeUptoRow : OpenClaim := { program := "ytfenmicakmjelaa", sum := "ed90491b9f57ee574606aa39784f010bea69e392ee89d71fa9f018fe32880ddf", func := "loop.example/g00509/laws.FnExactRespondToChallenge", spec := "fnExactRespondToChallenge", apart := false, narrowed := true }
def FnExactRespondToChallengeUptoSaid : Prop := fnExactRespondToChallengeUptoRow.holds Try.pinned (OpenSpec.upto fnExactRespondToChallengeSpec)

/-- 'laws.FnCardResponses', WHERE WHAT IT READS IS OF BULK AT MOST 1048576: true; the input reads as it did. -/
def fnCardResponsesUptoRow : OpenClaim := { program := "ytfenmicakmjelaa", sum := "ed90491b9f57ee574606aa39784f010bea69e392ee89d71fa9f018fe32880ddf", func := "loop.example/g00509/laws.FnCardResponses", spec := "fnCardResponses", apart := false, narrowed := true }
def FnCardResponsesUptoSaid : Prop := fnCardResponsesUptoRow.holds Try.pinned (OpenSpec.upto fnCardResponsesSpec)

end Rows
end Go.Proofs.Ytfenmicakmjelaa
