/-
  No cell of these rows narrows 'for every input' (looked for: loops, veiled, ifaces, maps, wideKeys, modest, calm, conditions, laid).
  DERIVED. THE GIVEN ROWS OF THIS SEAT. 12 by the template 'for every input the law returns true; each argument reads behind the call as it read before'; 0 by the template 'total and deterministic' (their statements: YtjkbmdbecplgiaaTotals.lean).
  GIVEN WITH THE SEED: the statements are not yours to turn. If you find one false, say at which input.
  Laid BY PROGRAM, IN A SANDBOX (cutbox-rows.mjs): the forced cells as the released guide's own fill.sh prints them over the translation 25b40a0b50226d84… (all of the seat's roots in one cut). By AI agents, Wed Nov 11 2026. No macro, syntax, notation, axiom, sorry.
-/
import Derived.Test.YtjkbmdbecplgiaaChecked
import GoSem.Claim
import GoSem.ClaimJoined
import GoSem.ClaimMapViews
import Derived.JoinedTies
import Derived.KernelRfl
namespace Go.Proofs.Ytjkbmdbecplgiaa
/- THE CELL 'sum', in the pinned program and in every row, IS THE sha256 OF THE DUMP (.gsa) THAT YtjkbmdbecplgiaaProg.lean LOADS. Nothing in Lean hashes anything: it is a label: what it is worth is what the hold of that sum in a sandbox is worth. -/
noncomputable def Try.pinned : Pinned := { name := "ytjkbmdbecplgiaa", sum := "25b40a0b50226d845e3a7e7175df3c73b7ce60d756aeaba20deb7feb8048faf0", checked := Try.checked }
namespace Rows
def none {H : Type} : Left H := { results := [], args := [] }

/-- 'laws.FnExactRespects': WHATEVER THE INPUT: true; the input reads as it did. -/
def fnExactRespectsSpec : ChangeSpec := { name := "fnExactRespects", fn := fun _ => fun
  | [d1, d2] => { results := [.lit (.bool true)], args := [d1, d2] }
  | _ => none }
def fnExactRespectsRow : OpenClaim := { program := "ytjkbmdbecplgiaa", sum := "25b40a0b50226d845e3a7e7175df3c73b7ce60d756aeaba20deb7feb8048faf0", func := "loop.example/g00596/laws.FnExactRespects", spec := "fnExactRespects", unfollowed := true, recurses := true, apart := false }
def FnExactRespectsSaid : Prop := fnExactRespectsRow.holds Try.pinned (OpenSpec.ofChange fnExactRespectsSpec)

/-- ITS FALSE NEIGHBOUR: 'it returns false'. Refute it at one input. -/
def fnExactRespectsWrong : ChangeSpec := { name := "fnExactRespects", fn := fun _ => fun
  | [d1, d2] => { results := [.lit (.bool false)], args := [d1, d2] }
  | _ => none }
def FnExactRespectsWrongFalsely : Prop := fnExactRespectsRow.holds Try.pinned (OpenSpec.ofChange fnExactRespectsWrong)

/-- 'laws.FnExactAreRules': WHATEVER THE INPUT: true; the input reads as it did. -/
def fnExactAreRulesSpec : ChangeSpec := { name := "fnExactAreRules", fn := fun _ => fun
  | [d1, d2] => { results := [.lit (.bool true)], args := [d1, d2] }
  | _ => none }
def fnExactAreRulesRow : OpenClaim := { program := "ytjkbmdbecplgiaa", sum := "25b40a0b50226d845e3a7e7175df3c73b7ce60d756aeaba20deb7feb8048faf0", func := "loop.example/g00596/laws.FnExactAreRules", spec := "fnExactAreRules", unfollowed := true, recurses := true, apart := false }
def FnExactAreRulesSaid : Prop := fnExactAreRulesRow.holds Try.pinned (OpenSpec.ofChange fnExactAreRulesSpec)

/-- ITS FALSE NEIGHBOUR: 'it returns false'. Refute it at one input. -/
def fnExactAreRulesWrong : ChangeSpec := { name := "fnExactAreRules", fn := fun _ => fun
  | [d1, d2] => { results := [.lit (.bool false)], args := [d1, d2] }
  | _ => none }
def FnExactAreRulesWrongFalsely : Prop := fnExactAreRulesRow.holds Try.pinned (OpenSpec.ofChange fnExactAreRulesWrong)

/-- 'laws.FnExactRuleText': WHATEVER THE INPUT: true; the input reads as it did. -/
def fnExactRuleTextSpec : ChangeSpec := { name := "fnExactRuleText", fn := fun _ => fun
  | [d] => { results := [.lit (.bool true)], args := [d] }
  | _ => none }
def fnExactRuleTextRow : OpenClaim := { program := "ytjkbmdbecplgiaa", sum := "25b40a0b50226d845e3a7e7175df3c73b7ce60d756aeaba20deb7feb8048faf0", func := "loop.example/g00596/laws.FnExactRuleText", spec := "fnExactRuleText", unfollowed := true, recurses := true, apart := false }
def FnExactRuleTextSaid : Prop := fnExactRuleTextRow.holds Try.pinned (OpenSpec.ofChange fnExactRuleTextSpec)

/-- ITS FALSE NEIGHBOUR: 'it returns false'. Refute it at one input. -/
def fnExactRuleTextWrong : ChangeSpec := { name := "fnExactRuleText", fn := fun _ => fun
  | [d] => { results := [.lit (.bool false)], args := [d] }
  | _ => none }
def FnExactRuleTextWrongFalsely : Prop := fnExactRuleTextRow.holds Try.pinned (OpenSpec.ofChange fnExactRuleTextWrong)

/-- 'laws.FnExactOneStep': WHATEVER THE INPUT: true; the input reads as it did. -/
def fnExactOneStepSpec : ChangeSpec := { name := "fnExactOneStep", fn := fun _ => fun
  | [d1, d2] => { results := [.lit (.bool true)], args := [d1, d2] }
  | _ => none }
def fnExactOneStepRow : OpenClaim := { program := "ytjkbmdbecplgiaa", sum := "25b40a0b50226d845e3a7e7175df3c73b7ce60d756aeaba20deb7feb8048faf0", func := "loop.example/g00596/laws.FnExactOneStep", spec := "fnExactOneStep", unfollowed := true, recurses := true, apart := false }
def FnExactOneStepSaid : Prop := fnExactOneStepRow.holds Try.pinned (OpenSpec.ofChange fnExactOneStepSpec)

/-- ITS FALSE NEIGHBOUR: 'it returns false'. Refute it at one input. -/
def fnExactOneStepWrong : ChangeSpec := { name := "fnExactOneStep", fn := fun _ => fun
  | [d1, d2] => { results := [.lit (.bool false)], args := [d1, d2] }
  | _ => none }
def FnExactOneStepWrongFalsely : Prop := fnExactOneStepRow.holds Try.pinned (OpenSpec.ofChange fnExactOneStepWrong)

/-- 'laws.FnExactClosedBy': WHATEVER THE INPUT: true; the input reads as it did. -/
def fnExactClosedBySpec : ChangeSpec := { name := "fnExactClosedBy", fn := fun _ => fun
  | [d1, d2] => { results := [.lit (.bool true)], args := [d1, d2] }
  | _ => none }
def fnExactClosedByRow : OpenClaim := { program := "ytjkbmdbecplgiaa", sum := "25b40a0b50226d845e3a7e7175df3c73b7ce60d756aeaba20deb7feb8048faf0", func := "loop.example/g00596/laws.FnExactClosedBy", spec := "fnExactClosedBy", unfollowed := true, recurses := true, apart := false }
def FnExactClosedBySaid : Prop := fnExactClosedByRow.holds Try.pinned (OpenSpec.ofChange fnExactClosedBySpec)

/-- ITS FALSE NEIGHBOUR: 'it returns false'. Refute it at one input. -/
def fnExactClosedByWrong : ChangeSpec := { name := "fnExactClosedBy", fn := fun _ => fun
  | [d1, d2] => { results := [.lit (.bool false)], args := [d1, d2] }
  | _ => none }
def FnExactClosedByWrongFalsely : Prop := fnExactClosedByRow.holds Try.pinned (OpenSpec.ofChange fnExactClosedByWrong)

/-- 'laws.FnExactFollows': WHATEVER THE INPUT: true; the input reads as it did. -/
def fnExactFollowsSpec : ChangeSpec := { name := "fnExactFollows", fn := fun _ => fun
  | [d1, d2] => { results := [.lit (.bool true)], args := [d1, d2] }
  | _ => none }
def fnExactFollowsRow : OpenClaim := { program := "ytjkbmdbecplgiaa", sum := "25b40a0b50226d845e3a7e7175df3c73b7ce60d756aeaba20deb7feb8048faf0", func := "loop.example/g00596/laws.FnExactFollows", spec := "fnExactFollows", unfollowed := true, recurses := true, apart := false }
def FnExactFollowsSaid : Prop := fnExactFollowsRow.holds Try.pinned (OpenSpec.ofChange fnExactFollowsSpec)

/-- ITS FALSE NEIGHBOUR: 'it returns false'. Refute it at one input. -/
def fnExactFollowsWrong : ChangeSpec := { name := "fnExactFollows", fn := fun _ => fun
  | [d1, d2] => { results := [.lit (.bool false)], args := [d1, d2] }
  | _ => none }
def FnExactFollowsWrongFalsely : Prop := fnExactFollowsRow.holds Try.pinned (OpenSpec.ofChange fnExactFollowsWrong)

/-- 'laws.FnExactAreEquivalent': WHATEVER THE INPUT: true; the input reads as it did. -/
def fnExactAreEquivalentSpec : ChangeSpec := { name := "fnExactAreEquivalent", fn := fun _ => fun
  | [d1, d2] => { results := [.lit (.bool true)], args := [d1, d2] }
  | _ => none }
def fnExactAreEquivalentRow : OpenClaim := { program := "ytjkbmdbecplgiaa", sum := "25b40a0b50226d845e3a7e7175df3c73b7ce60d756aeaba20deb7feb8048faf0", func := "loop.example/g00596/laws.FnExactAreEquivalent", spec := "fnExactAreEquivalent", unfollowed := true, recurses := true, apart := false }
def FnExactAreEquivalentSaid : Prop := fnExactAreEquivalentRow.holds Try.pinned (OpenSpec.ofChange fnExactAreEquivalentSpec)

/-- ITS FALSE NEIGHBOUR: 'it returns false'. Refute it at one input. -/
def fnExactAreEquivalentWrong : ChangeSpec := { name := "fnExactAreEquivalent", fn := fun _ => fun
  | [d1, d2] => { results := [.lit (.bool false)], args := [d1, d2] }
  | _ => none }
def FnExactAreEquivalentWrongFalsely : Prop := fnExactAreEquivalentRow.holds Try.pinned (OpenSpec.ofChange fnExactAreEquivalentWrong)

/-- 'laws.FnExactCheckProof': WHATEVER THE INPUT: true; the input reads as it did. -/
def fnExactCheckProofSpec : ChangeSpec := { name := "fnExactCheckProof", fn := fun _ => fun
  | [d1, d2, d3] => { results := [.lit (.bool true)], args := [d1, d2, d3] }
  | _ => none }
def fnExactCheckProofRow : OpenClaim := { program := "ytjkbmdbecplgiaa", sum := "25b40a0b50226d845e3a7e7175df3c73b7ce60d756aeaba20deb7feb8048faf0", func := "loop.example/g00596/laws.FnExactCheckProof", spec := "fnExactCheckProof", unfollowed := true, recurses := true, apart := false }
def FnExactCheckProofSaid : Prop := fnExactCheckProofRow.holds Try.pinned (OpenSpec.ofChange fnExactCheckProofSpec)

/-- ITS FALSE NEIGHBOUR: 'it returns false'. Refute it at one input. -/
def fnExactCheckProofWrong : ChangeSpec := { name := "fnExactCheckProof", fn := fun _ => fun
  | [d1, d2, d3] => { results := [.lit (.bool false)], args := [d1, d2, d3] }
  | _ => none }
def FnExactCheckProofWrongFalsely : Prop := fnExactCheckProofRow.holds Try.pinned (OpenSpec.ofChange fnExactCheckProofWrong)

/-- 'laws.FnExactIsRedundant': WHATEVER THE INPUT: true; the input reads as it did. -/
def fnExactIsRedundantSpec : ChangeSpec := { name := "fnExactIsRedundant", fn := fun _ => fun
  | [d1, d2] => { results := [.lit (.bool true)], args := [d1, d2] }
  | _ => none }
def fnExactIsRedundantRow : OpenClaim := { program := "ytjkbmdbecplgiaa", sum := "25b40a0b50226d845e3a7e7175df3c73b7ce60d756aeaba20deb7feb8048faf0", func := "loop.example/g00596/laws.FnExactIsRedundant", spec := "fnExactIsRedundant", unfollowed := true, recurses := true, apart := false }
def FnExactIsRedundantSaid : Prop := fnExactIsRedundantRow.holds Try.pinned (OpenSpec.ofChange fnExactIsRedundantSpec)

/-- ITS FALSE NEIGHBOUR: 'it returns false'. Refute it at one input. -/
def fnExactIsRedundantWrong : ChangeSpec := { name := "fnExactIsRedundant", fn := fun _ => fun
  | [d1, d2] => { results := [.lit (.bool false)], args := [d1, d2] }
  | _ => none }
def FnExactIsRedundantWrongFalsely : Prop := fnExactIsRedundantRow.holds Try.pinned (OpenSpec.ofChange fnExactIsRedundantWrong)

/-- 'laws.FnExactIsDirect': WHATEVER THE INPUT: true; the input reads as it did. -/
def fnExactIsDirectSpec : ChangeSpec := { name := "fnExactIsDirect", fn := fun _ => fun
  | [d1, d2] => { results := [.lit (.bool true)], args := [d1, d2] }
  | _ => none }
def fnExactIsDirectRow : OpenClaim := { program := "ytjkbmdbecplgiaa", sum := "25b40a0b50226d845e3a7e7175df3c73b7ce60d756aeaba20deb7feb8048faf0", func := "loop.example/g00596/laws.FnExactIsDirect", spec := "fnExactIsDirect", unfollowed := true, recurses := true, apart := false }
def FnExactIsDirectSaid : Prop := fnExactIsDirectRow.holds Try.pinned (OpenSpec.ofChange fnExactIsDirectSpec)

/-- ITS FALSE NEIGHBOUR: 'it returns false'. Refute it at one input. -/
def fnExactIsDirectWrong : ChangeSpec := { name := "fnExactIsDirect", fn := fun _ => fun
  | [d1, d2] => { results := [.lit (.bool false)], args := [d1, d2] }
  | _ => none }
def FnExactIsDirectWrongFalsely : Prop := fnExactIsDirectRow.holds Try.pinned (OpenSpec.ofChange fnExactIsDirectWrong)

/-- 'laws.FnExactLeftReduced': WHATEVER THE INPUT: true; the input reads as it did. -/
def fnExactLeftReducedSpec : ChangeSpec := { name := "fnExactLeftReduced", fn := fun _ => fun
  | [d1, d2] => { results := [.lit (.bool true)], args := [d1, d2] }
  | _ => none }
def fnExactLeftReducedRow : OpenClaim := { program := "ytjkbmdbecplgiaa", sum := "25b40a0b50226d845e3a7e7175df3c73b7ce60d756aeaba20deb7feb8048faf0", func := "loop.example/g00596/laws.FnExactLeftReduced", spec := "fnExactLeftReduced", unfollowed := true, recurses := true, apart := false }
def FnExactLeftReducedSaid : Prop := fnExactLeftReducedRow.holds Try.pinned (OpenSpec.ofChange fnExactLeftReducedSpec)

/-- ITS FALSE NEIGHBOUR: 'it returns false'. Refute it at one input. -/
def fnExactLeftReducedWrong : ChangeSpec := { name := "fnExactLeftReduced", fn := fun _ => fun
  | [d1, d2] => { results := [.lit (.bool false)], args := [d1, d2] }
  | _ => none }
def FnExactLeftReducedWrongFalsely : Prop := fnExactLeftReducedRow.holds Try.pinned (OpenSpec.ofChange fnExactLeftReducedWrong)

/-- 'laws.FnExactMinimalRules': WHATEVER THE INPUT: true; the input reads as it did. -/
def fnExactMinimalRulesSpec : ChangeSpec := { name := "fnExactMinimalRules", fn := fun _ => fun
  | [d] => { results := [.lit (.bool true)], args := [d] }
  | _ => none }
def fnExactMinimalRulesRow : OpenClaim := { program := "ytjkbmdbecplgiaa", sum := "25b40a0b50226d845e3a7e7175df3c73b7ce60d756aeaba20deb7feb8048faf0", func := "loop.example/g00596/laws.FnExactMinimalRules", spec := "fnExactMinimalRules", unfollowed := true, recurses := true, apart := false }
def FnExactMinimalRulesSaid : Prop := fnExactMinimalRulesRow.holds Try.pinned (OpenSpec.ofChange fnExactMinimalRulesSpec)

/-- ITS FALSE NEIGHBOUR: 'it returns false'. Refute it at one input. -/
def fnExactMinimalRulesWrong : ChangeSpec := { name := "fnExactMinimalRules", fn := fun _ => fun
  | [d] => { results := [.lit (.bool false)], args := [d] }
  | _ => none }
def FnExactMinimalRulesWrongFalsely : Prop := fnExactMinimalRulesRow.holds Try.pinned (OpenSpec.ofChange fnExactMinimalRulesWrong)

/- THE SECOND FORM. 'bulk': how many values and letters a reading holds, each counted each time it is reached (what is shared counts as often as it is met; a slice's spare places count too). A statement '..UptoSaid' is the law's where the arguments, and the package variables that the reading takes, are together of bulk at most 1048576: NARROWER than '..Said'. Prove '..Said' where nothing that the law and all that it calls make is longer than what came in: it says more and counts as full. Else prove '..UptoSaid'. A law counts once. -/
mutual
def uptoBulk {H : Type} : DataW H → Nat
  | .lit (.string bytes) => bytes.length + 1
  | .lit _ => 1
  | .nil => 1
  | .ptr d => uptoBulk d + 1
  | .slice elems spare => uptoBulkAll elems + uptoBulkAll spare + 1
  | .agg parts => uptoBulkAll parts + 1
  | .iface _ d => uptoBulk d + 1
  | .map entries => uptoBulkEntries entries + 1
  | .held _ => 1
def uptoBulkAll {H : Type} : List (DataW H) → Nat
  | [] => 0
  | d :: r => uptoBulk d + uptoBulkAll r
def uptoBulkEntries {H : Type} : List (Lit × DataW H) → Nat
  | [] => 0
  | x :: r => uptoBulkEntry x + uptoBulkEntries r
def uptoBulkEntry {H : Type} : Lit × DataW H → Nat
  | (.string bytes, d) => bytes.length + uptoBulk d + 1
  | (_, d) => uptoBulk d + 1
 end
def uptoSmall : (H : Type) → List (DataW H) → Bool := fun _ ds => decide (uptoBulkAll ds ≤ 1048576)
def OpenSpec.upto (s : _root_.Go.ChangeSpec) : _root_.Go.OpenSpec := { _root_.Go.OpenSpec.ofChange s with cond := some uptoSmall }

/-- 'laws.FnExactRespects', WHERE WHAT IT READS IS OF BULK AT MOST 1048576: true; the input reads as it did. -/
def fnExactRespectsUptoRow : OpenClaim := { program := "ytjkbmdbecplgiaa", sum := "25b40a0b50226d845e3a7e7175df3c73b7ce60d756aeaba20deb7feb8048faf0", func := "loop.example/g00596/laws.FnExactRespects", spec := "fnExactRespects", unfollowed := true, recurses := true, apart := false, narrowed := true }
def FnExactRespectsUptoSaid : Prop := fnExactRespectsUptoRow.holds Try.pinned (OpenSpec.upto fnExactRespectsSpec)

/-- 'laws.FnExactAreRules', WHERE WHAT IT READS IS OF BULK AT MOST 1048576: true; the input reads as it did. -/
def fnExactAreRulesUptoRow : OpenClaim := { program := "ytjkbmdbecplgiaa", sum := "25b40a0b50226d845e3a7e7175df3c73b7ce60d756aeaba20deb7feb8048faf0", func := "loop.example/g00596/laws.FnExactAreRules", spec := "fnExactAreRules", unfollowed := true, recurses := true, apart := false, narrowed := true }
def FnExactAreRulesUptoSaid : Prop := fnExactAreRulesUptoRow.holds Try.pinned (OpenSpec.upto fnExactAreRulesSpec)

/-- 'laws.FnExactRuleText', WHERE WHAT IT READS IS OF BULK AT MOST 1048576: true; the input reads as it did. -/
def fnExactRuleTextUptoRow : OpenClaim := { program := "ytjkbmdbecplgiaa", sum := "25b40a0b50226d845e3a7e7175df3c73b7ce60d756aeaba20deb7feb8048faf0", func := "loop.example/g00596/laws.FnExactRuleText", spec := "fnExactRuleText", unfollowed := true, recurses := true, apart := false, narrowed := true }
def FnExactRuleTextUptoSaid : Prop := fnExactRuleTextUptoRow.holds Try.pinned (OpenSpec.upto fnExactRuleTextSpec)

/-- 'laws.FnExactOneStep', WHERE WHAT IT READS IS OF BULK AT MOST 1048576: true; the input reads as it did. -/
def fnExactOneStepUptoRow : OpenClaim := { program := "ytjkbmdbecplgiaa", sum := "25b40a0b50226d845e3a7e7175df3c73b7ce60d756aeaba20deb7feb8048faf0", func := "loop.example/g00596/laws.FnExactOneStep", spec := "fnExactOneStep", unfollowed := true, recurses := true, apart := false, narrowed := true }
def FnExactOneStepUptoSaid : Prop := fnExactOneStepUptoRow.holds Try.pinned (OpenSpec.upto fnExactOneStepSpec)

/-- 'laws.FnExactClosedBy', WHERE WHAT IT READS IS OF BULK AT MOST 1048576: true; the input reads as it did. -/
def fnExactClosedByUptoRow : OpenClaim := { program := "ytjkbmdbecplgiaa", sum := "25b40a0b50226d845e3a7e7175df3c73b7ce60d756aeaba20deb7feb8048faf0", func := "loop.example/g00596/laws.FnExactClosedBy", spec := "fnExactClosedBy", unfollowed := true, recurses := true, apart := false, narrowed := true }
def FnExactClosedByUptoSaid : Prop := fnExactClosedByUptoRow.holds Try.pinned (OpenSpec.upto fnExactClosedBySpec)

/-- 'laws.FnExactFollows', WHERE WHAT IT READS IS OF BULK AT MOST 1048576: true; the input reads as it did. -/
def fnExactFollowsUptoRow : OpenClaim := { program := "ytjkbmdbecplgiaa", sum := "25b40a0b50226d845e3a7e7175df3c73b7ce60d756aeaba20deb7feb8048faf0", func := "loop.example/g00596/laws.FnExactFollows", spec := "fnExactFollows", unfollowed := true, recurses := true, apart := false, narrowed := true }
def FnExactFollowsUptoSaid : Prop := fnExactFollowsUptoRow.holds Try.pinned (OpenSpec.upto fnExactFollowsSpec)

/-- 'laws.FnExactAreEquivalent', WHERE WHAT IT READS IS OF BULK AT MOST 1048576: true; the input reads as it did. -/
def fnExactAreEquivalentUptoRow : OpenClaim := { program := "ytjkbmdbecplgiaa", sum := "25b40a0b50226d845e3a7e7175df3c73b7ce60d756aeaba20deb7feb8048faf0", func := "loop.example/g00596/laws.FnExactAreEquivalent", spec := "fnExactAreEquivalent", unfollowed := true, recurses := true, apart := false, narrowed := true }
def FnExactAreEquivalentUptoSaid : Prop := fnExactAreEquivalentUptoRow.holds Try.pinned (OpenSpec.upto fnExactAreEquivalentSpec)

/-- 'laws.FnExactCheckProof', WHERE WHAT IT READS IS OF BULK AT MOST 1048576: true; the input reads as it did. -/
def fnExactCheckProofUptoRow : OpenClaim := { program := "ytjkbmdbecplgiaa", sum := "25b40a0b50226d845e3a7e7175df3c73b7ce60d756aeaba20deb7feb8048faf0", func := "loop.example/g00596/laws.FnExactCheckProof", spec := "fnExactCheckProof", unfollowed := true, recurses := true, apart := false, narrowed := true }
def FnExactCheckProofUptoSaid : Prop := fnExactCheckProofUptoRow.holds Try.pinned (OpenSpec.upto fnExactCheckProofSpec)

/-- 'laws.FnExactIsRedundant', WHERE WHAT IT READS IS OF BULK AT MOST 1048576: true; the input reads as it did. -/
def fnExactIsRedundantUptoRow : OpenClaim := { program := "ytjkbmdbecplgiaa", sum := "25b40a0b50226d845e3a7e7175df3c73b7ce60d756aeaba20deb7feb8048faf0", func := "loop.example/g00596/laws.FnExactIsRedundant", spec := "fnExactIsRedundant", unfollowed := true, recurses := true, apart := false, narrowed := true }
def FnExactIsRedundantUptoSaid : Prop := fnExactIsRedundantUptoRow.holds Try.pinned (OpenSpec.upto fnExactIsRedundantSpec)

/-- 'laws.FnExactIsDirect', WHERE WHAT IT READS IS OF BULK AT MOST 1048576: true; the input reads as it did. -/
def fnExactIsDirectUptoRow : OpenClaim := { program := "ytjkbmdbecplgiaa", sum := "25b40a0b50226d845e3a7e7175df3c73b7ce60d756aeaba20deb7feb8048faf0", func := "loop.example/g00596/laws.FnExactIsDirect", spec := "fnExactIsDirect", unfollowed := true, recurses := true, apart := false, narrowed := true }
def FnExactIsDirectUptoSaid : Prop := fnExactIsDirectUptoRow.holds Try.pinned (OpenSpec.upto fnExactIsDirectSpec)

/-- 'laws.FnExactLeftReduced', WHERE WHAT IT READS IS OF BULK AT MOST 1048576: true; the input reads as it did. -/
def fnExactLeftReducedUptoRow : OpenClaim := { program := "ytjkbmdbecplgiaa", sum := "25b40a0b50226d845e3a7e7175df3c73b7ce60d756aeaba20deb7feb8048faf0", func := "loop.example/g00596/laws.FnExactLeftReduced", spec := "fnExactLeftReduced", unfollowed := true, recurses := true, apart := false, narrowed := true }
def FnExactLeftReducedUptoSaid : Prop := fnExactLeftReducedUptoRow.holds Try.pinned (OpenSpec.upto fnExactLeftReducedSpec)

/-- 'laws.FnExactMinimalRules', WHERE WHAT IT READS IS OF BULK AT MOST 1048576: true; the input reads as it did. -/
def fnExactMinimalRulesUptoRow : OpenClaim := { program := "ytjkbmdbecplgiaa", sum := "25b40a0b50226d845e3a7e7175df3c73b7ce60d756aeaba20deb7feb8048faf0", func := "loop.example/g00596/laws.FnExactMinimalRules", spec := "fnExactMinimalRules", unfollowed := true, recurses := true, apart := false, narrowed := true }
def FnExactMinimalRulesUptoSaid : Prop := fnExactMinimalRulesUptoRow.holds Try.pinned (OpenSpec.upto fnExactMinimalRulesSpec)

end Rows
end Go.Proofs.Ytjkbmdbecplgiaa
