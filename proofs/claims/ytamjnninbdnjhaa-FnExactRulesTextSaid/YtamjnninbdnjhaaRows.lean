/-
  No cell of these rows narrows 'for every input' (looked for: loops, veiled, ifaces, maps, wideKeys, modest, calm, conditions, laid).
  DERIVED. THE GIVEN ROWS OF THIS SEAT. 5 by the template 'for every input the law returns true; each argument reads behind the call as it read before'; 0 by the template 'total and deterministic' (their statements: YtamjnninbdnjhaaTotals.lean).
  GIVEN WITH THE SEED: the statements are not yours to turn. If you find one false, say at which input.
  Laid BY PROGRAM, IN A SANDBOX (cutbox-rows.mjs): the forced cells as the released guide's own fill.sh prints them over the translation d46959905766776a… (all of the seat's roots in one cut). By AI agents, Wed Nov 11 2026. No macro, syntax, notation, axiom, sorry.
-/
import Derived.Test.YtamjnninbdnjhaaChecked
import GoSem.Claim
import GoSem.ClaimJoined
import GoSem.ClaimMapViews
import Derived.JoinedTies
import Derived.KernelRfl
namespace Go.Proofs.Ytamjnninbdnjhaa
/- THE CELL 'sum', in the pinned program and in every row, IS THE sha256 OF THE DUMP (.gsa) THAT YtamjnninbdnjhaaProg.lean LOADS. Nothing in Lean hashes anything: it is a label: what it is worth is what the hold of that sum in a sandbox is worth. -/
noncomputable def Try.pinned : Pinned := { name := "ytamjnninbdnjhaa", sum := "d46959905766776ad409f4317444f84943c6d20c138ab2a0352cef6289c50f84", checked := Try.checked }
namespace Rows
def none {H : Type} : Left H := { results := [], args := [] }

/-- 'laws.FnExactCountAccepted': WHATEVER THE INPUT: true; the input reads as it did. -/
def fnExactCountAcceptedSpec : ChangeSpec := { name := "fnExactCountAccepted", fn := fun _ => fun
  | [d] => { results := [.lit (.bool true)], args := [d] }
  | _ => none }
def fnExactCountAcceptedRow : OpenClaim := { program := "ytamjnninbdnjhaa", sum := "d46959905766776ad409f4317444f84943c6d20c138ab2a0352cef6289c50f84", func := "loop.example/g00596/laws.FnExactCountAccepted", spec := "fnExactCountAccepted", apart := false }
def FnExactCountAcceptedSaid : Prop := fnExactCountAcceptedRow.holds Try.pinned (OpenSpec.ofChange fnExactCountAcceptedSpec)

/-- ITS FALSE NEIGHBOUR: 'it returns false'. Refute it at one input. -/
def fnExactCountAcceptedWrong : ChangeSpec := { name := "fnExactCountAccepted", fn := fun _ => fun
  | [d] => { results := [.lit (.bool false)], args := [d] }
  | _ => none }
def FnExactCountAcceptedWrongFalsely : Prop := fnExactCountAcceptedRow.holds Try.pinned (OpenSpec.ofChange fnExactCountAcceptedWrong)

/-- 'laws.FnExactProofOf': WHATEVER THE INPUT: true; the input reads as it did. -/
def fnExactProofOfSpec : ChangeSpec := { name := "fnExactProofOf", fn := fun _ => fun
  | [d1, d2] => { results := [.lit (.bool true)], args := [d1, d2] }
  | _ => none }
def fnExactProofOfRow : OpenClaim := { program := "ytamjnninbdnjhaa", sum := "d46959905766776ad409f4317444f84943c6d20c138ab2a0352cef6289c50f84", func := "loop.example/g00596/laws.FnExactProofOf", spec := "fnExactProofOf", unfollowed := true, recurses := true, apart := false }
def FnExactProofOfSaid : Prop := fnExactProofOfRow.holds Try.pinned (OpenSpec.ofChange fnExactProofOfSpec)

/-- ITS FALSE NEIGHBOUR: 'it returns false'. Refute it at one input. -/
def fnExactProofOfWrong : ChangeSpec := { name := "fnExactProofOf", fn := fun _ => fun
  | [d1, d2] => { results := [.lit (.bool false)], args := [d1, d2] }
  | _ => none }
def FnExactProofOfWrongFalsely : Prop := fnExactProofOfRow.holds Try.pinned (OpenSpec.ofChange fnExactProofOfWrong)

/-- 'laws.FnExactParseRule': WHATEVER THE INPUT: true; the input reads as it did. -/
def fnExactParseRuleSpec : ChangeSpec := { name := "fnExactParseRule", fn := fun _ => fun
  | [d] => { results := [.lit (.bool true)], args := [d] }
  | _ => none }
def fnExactParseRuleRow : OpenClaim := { program := "ytamjnninbdnjhaa", sum := "d46959905766776ad409f4317444f84943c6d20c138ab2a0352cef6289c50f84", func := "loop.example/g00596/laws.FnExactParseRule", spec := "fnExactParseRule", inPlace := ["internal/bytealg.IndexByteString", "internal/bytealg.IndexString"], named := ["internal/bytealg.MaxLen"], apart := false }
def FnExactParseRuleSaid : Prop := fnExactParseRuleRow.holds Try.pinned (OpenSpec.ofChange fnExactParseRuleSpec)

/-- ITS FALSE NEIGHBOUR: 'it returns false'. Refute it at one input. -/
def fnExactParseRuleWrong : ChangeSpec := { name := "fnExactParseRule", fn := fun _ => fun
  | [d] => { results := [.lit (.bool false)], args := [d] }
  | _ => none }
def FnExactParseRuleWrongFalsely : Prop := fnExactParseRuleRow.holds Try.pinned (OpenSpec.ofChange fnExactParseRuleWrong)

/-- 'laws.FnExactRulesText': WHATEVER THE INPUT: true; the input reads as it did. -/
def fnExactRulesTextSpec : ChangeSpec := { name := "fnExactRulesText", fn := fun _ => fun
  | [d] => { results := [.lit (.bool true)], args := [d] }
  | _ => none }
def fnExactRulesTextRow : OpenClaim := { program := "ytamjnninbdnjhaa", sum := "d46959905766776ad409f4317444f84943c6d20c138ab2a0352cef6289c50f84", func := "loop.example/g00596/laws.FnExactRulesText", spec := "fnExactRulesText", inPlace := ["internal/abi.NoEscape", "internal/bytealg.MakeNoZero"], unfollowed := true, recurses := true, apart := false }
def FnExactRulesTextSaid : Prop := fnExactRulesTextRow.holds Try.pinned (OpenSpec.ofChange fnExactRulesTextSpec)

/-- ITS FALSE NEIGHBOUR: 'it returns false'. Refute it at one input. -/
def fnExactRulesTextWrong : ChangeSpec := { name := "fnExactRulesText", fn := fun _ => fun
  | [d] => { results := [.lit (.bool false)], args := [d] }
  | _ => none }
def FnExactRulesTextWrongFalsely : Prop := fnExactRulesTextRow.holds Try.pinned (OpenSpec.ofChange fnExactRulesTextWrong)

/-- 'laws.FnExactArrowText': WHATEVER THE INPUT: true; the input reads as it did. -/
def fnExactArrowTextSpec : ChangeSpec := { name := "fnExactArrowText", fn := fun _ => fun
  | [d] => { results := [.lit (.bool true)], args := [d] }
  | _ => none }
def fnExactArrowTextRow : OpenClaim := { program := "ytamjnninbdnjhaa", sum := "d46959905766776ad409f4317444f84943c6d20c138ab2a0352cef6289c50f84", func := "loop.example/g00596/laws.FnExactArrowText", spec := "fnExactArrowText", unfollowed := true, recurses := true, apart := false }
def FnExactArrowTextSaid : Prop := fnExactArrowTextRow.holds Try.pinned (OpenSpec.ofChange fnExactArrowTextSpec)

/-- ITS FALSE NEIGHBOUR: 'it returns false'. Refute it at one input. -/
def fnExactArrowTextWrong : ChangeSpec := { name := "fnExactArrowText", fn := fun _ => fun
  | [d] => { results := [.lit (.bool false)], args := [d] }
  | _ => none }
def FnExactArrowTextWrongFalsely : Prop := fnExactArrowTextRow.holds Try.pinned (OpenSpec.ofChange fnExactArrowTextWrong)

/- THE SECOND FORM. 'bulk': how many values and letters a reading holds, each counted each time it is reached (what is shared counts as often as it is met; a slice's spare places count too). A statement '..UptoSaid' is the law's where the arguments, and the package variables that the reading takes, are together of bulk at most 1048576: NARROWER than '..Said'. Prove '..Said' where nothing that the law and all that it calls make is longer than what came in: it says more and counts as full. Else prove '..UptoSaid'. A law counts once. -/
mutual
def uptoBulk {H : Type} : DataW H → Nat
  | .lit (.string bytes) => bytes.length + 1
  | .lit _ => 1
  | .nil => 1
  | .ptr d => uptoBulk d + 1
  | .slice elems spare => uptoBulkAll elems + uptoBulkAll spare + 1
  | .agg parts => uptoBulkAll parts + 1
  | .iface _ d => uptoBulk d + 1
  | .map entries => uptoBulkEntries entries + 1
  | .held _ => 1
def uptoBulkAll {H : Type} : List (DataW H) → Nat
  | [] => 0
  | d :: r => uptoBulk d + uptoBulkAll r
def uptoBulkEntries {H : Type} : List (Lit × DataW H) → Nat
  | [] => 0
  | x :: r => uptoBulkEntry x + uptoBulkEntries r
def uptoBulkEntry {H : Type} : Lit × DataW H → Nat
  | (.string bytes, d) => bytes.length + uptoBulk d + 1
  | (_, d) => uptoBulk d + 1
 end
def uptoSmall : (H : Type) → List (DataW H) → Bool := fun _ ds => decide (uptoBulkAll ds ≤ 1048576)
def OpenSpec.upto (s : _root_.Go.ChangeSpec) : _root_.Go.OpenSpec := { _root_.Go.OpenSpec.ofChange s with cond := some uptoSmall }

/-- 'laws.FnExactCountAccepted', WHERE WHAT IT READS IS OF BULK AT MOST 1048576: true; the input reads as it did. -/
def fnExactCountAcceptedUptoRow : OpenClaim := { program := "ytamjnninbdnjhaa", sum := "d46959905766776ad409f4317444f84943c6d20c138ab2a0352cef6289c50f84", func := "loop.example/g00596/laws.FnExactCountAccepted", spec := "fnExactCountAccepted", apart := false, narrowed := true }
def FnExactCountAcceptedUptoSaid : Prop := fnExactCountAcceptedUptoRow.holds Try.pinned (OpenSpec.upto fnExactCountAcceptedSpec)

/-- 'laws.FnExactProofOf', WHERE WHAT IT READS IS OF BULK AT MOST 1048576: true; the input reads as it did. -/
def fnExactProofOfUptoRow : OpenClaim := { program := "ytamjnninbdnjhaa", sum := "d46959905766776ad409f4317444f84943c6d20c138ab2a0352cef6289c50f84", func := "loop.example/g00596/laws.FnExactProofOf", spec := "fnExactProofOf", unfollowed := true, recurses := true, apart := false, narrowed := true }
def FnExactProofOfUptoSaid : Prop := fnExactProofOfUptoRow.holds Try.pinned (OpenSpec.upto fnExactProofOfSpec)

/-- 'laws.FnExactParseRule', WHERE WHAT IT READS IS OF BULK AT MOST 1048576: true; the input reads as it did. -/
def fnExactParseRuleUptoRow : OpenClaim := { program := "ytamjnninbdnjhaa", sum := "d46959905766776ad409f4317444f84943c6d20c138ab2a0352cef6289c50f84", func := "loop.example/g00596/laws.FnExactParseRule", spec := "fnExactParseRule", inPlace := ["internal/bytealg.IndexByteString", "internal/bytealg.IndexString"], named := ["internal/bytealg.MaxLen"], apart := false, narrowed := true }
def FnExactParseRuleUptoSaid : Prop := fnExactParseRuleUptoRow.holds Try.pinned (OpenSpec.upto fnExactParseRuleSpec)

/-- 'laws.FnExactRulesText', WHERE WHAT IT READS IS OF BULK AT MOST 1048576: true; the input reads as it did. -/
def fnExactRulesTextUptoRow : OpenClaim := { program := "ytamjnninbdnjhaa", sum := "d46959905766776ad409f4317444f84943c6d20c138ab2a0352cef6289c50f84", func := "loop.example/g00596/laws.FnExactRulesText", spec := "fnExactRulesText", inPlace := ["internal/abi.NoEscape", "internal/bytealg.MakeNoZero"], unfollowed := true, recurses := true, apart := false, narrowed := true }
def FnExactRulesTextUptoSaid : Prop := fnExactRulesTextUptoRow.holds Try.pinned (OpenSpec.upto fnExactRulesTextSpec)

/-- 'laws.FnExactArrowText', WHERE WHAT IT READS IS OF BULK AT MOST 1048576: true; the input reads as it did. -/
def fnExactArrowTextUptoRow : OpenClaim := { program := "ytamjnninbdnjhaa", sum := "d46959905766776ad409f4317444f84943c6d20c138ab2a0352cef6289c50f84", func := "loop.example/g00596/laws.FnExactArrowText", spec := "fnExactArrowText", unfollowed := true, recurses := true, apart := false, narrowed := true }
def FnExactArrowTextUptoSaid : Prop := fnExactArrowTextUptoRow.holds Try.pinned (OpenSpec.upto fnExactArrowTextSpec)

end Rows
end Go.Proofs.Ytamjnninbdnjhaa
