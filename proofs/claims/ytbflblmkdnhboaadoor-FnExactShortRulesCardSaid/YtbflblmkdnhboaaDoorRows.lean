/-
  NARROWER THAN 'FOR EVERY INPUT', by the rows' own cells (each row's printed sentence says how): FnExactCountRules: laid · FnExactModelsOf: laid · FnExactProperPremises: laid · FnExactIrreducibleModels: laid · FnExactContextOfRules: laid · FnExactDirectBase: laid · FnExactShortRules: laid · FnExactPseudoIntents: laid · FnExactStemBase: laid.
  DERIVED. THE GIVEN ROWS OF THIS SEAT. 9 by the template 'for every input the law returns true; each argument reads behind the call as it read before'; 0 by the template 'total and deterministic' (their statements: YtbflblmkdnhboaaDoorTotals.lean).
  GIVEN WITH THE SEED: the statements are not yours to turn. If you find one false, say at which input.
  Laid BY PROGRAM, IN A SANDBOX (cutbox-rows.mjs): the forced cells as the released guide's own fill.sh prints them over the translation e796e92b7ed3536f… (all of the seat's roots in one cut). By AI agents, Wed Nov 11 2026. No macro, syntax, notation, axiom, sorry.
-/
import Derived.Test.YtbflblmkdnhboaaDoorChecked
import GoSem.Claim
import GoSem.ClaimJoined
import GoSem.ClaimMapViews
import Derived.JoinedTies
import Derived.KernelRfl
namespace Go.Proofs.YtbflblmkdnhboaaDoor
/- THE CELL 'sum', in the pinned program and in every row, IS THE sha256 OF THE DUMP (.gsa) THAT YtbflblmkdnhboaaDoorProg.lean LOADS. Nothing in Lean hashes anything: it is a label: what it is worth is what the hold of that sum in a sandbox is worth. -/
noncomputable def Tryd.pinned : Pinned := { name := "ytbflblmkdnhboaadoor", sum := "e796e92b7ed3536fafb79d437f7f24ac6301ac16a07456c8d09e2c8de2a8ce76", checked := Tryd.checked }
namespace Rows
def none {H : Type} : Left H := { results := [], args := [] }

/- WHAT THE LISTED PACKAGE-LEVEL VARIABLES READ AS WHEN THE CALL BEGINS. Each datum BY PROGRAM (the guide's laid-datum.mjs) off the statement by which the dump's own 'gosem.cut.vars' lays the variable. In a bare row this is a premise. The card (YtbflblmkdnhboaaDoorCards.lean) ties it to the program's text. -/
def laid_math_bits_deBruijn32tab {H : Type} : DataW H := .agg [.lit (.int .u8 0), .lit (.int .u8 1), .lit (.int .u8 28), .lit (.int .u8 2), .lit (.int .u8 29), .lit (.int .u8 14), .lit (.int .u8 24), .lit (.int .u8 3), .lit (.int .u8 30), .lit (.int .u8 22), .lit (.int .u8 20), .lit (.int .u8 15), .lit (.int .u8 25), .lit (.int .u8 17), .lit (.int .u8 4), .lit (.int .u8 8), .lit (.int .u8 31), .lit (.int .u8 27), .lit (.int .u8 13), .lit (.int .u8 23), .lit (.int .u8 21), .lit (.int .u8 19), .lit (.int .u8 16), .lit (.int .u8 7), .lit (.int .u8 26), .lit (.int .u8 12), .lit (.int .u8 18), .lit (.int .u8 6), .lit (.int .u8 11), .lit (.int .u8 5), .lit (.int .u8 10), .lit (.int .u8 9)]
def laid_math_bits_deBruijn64tab {H : Type} : DataW H := .agg [.lit (.int .u8 0), .lit (.int .u8 1), .lit (.int .u8 56), .lit (.int .u8 2), .lit (.int .u8 57), .lit (.int .u8 49), .lit (.int .u8 28), .lit (.int .u8 3), .lit (.int .u8 61), .lit (.int .u8 58), .lit (.int .u8 42), .lit (.int .u8 50), .lit (.int .u8 38), .lit (.int .u8 29), .lit (.int .u8 17), .lit (.int .u8 4), .lit (.int .u8 62), .lit (.int .u8 47), .lit (.int .u8 59), .lit (.int .u8 36), .lit (.int .u8 45), .lit (.int .u8 43), .lit (.int .u8 51), .lit (.int .u8 22), .lit (.int .u8 53), .lit (.int .u8 39), .lit (.int .u8 33), .lit (.int .u8 30), .lit (.int .u8 24), .lit (.int .u8 18), .lit (.int .u8 12), .lit (.int .u8 5), .lit (.int .u8 63), .lit (.int .u8 55), .lit (.int .u8 48), .lit (.int .u8 27), .lit (.int .u8 60), .lit (.int .u8 41), .lit (.int .u8 37), .lit (.int .u8 16), .lit (.int .u8 46), .lit (.int .u8 35), .lit (.int .u8 44), .lit (.int .u8 21), .lit (.int .u8 52), .lit (.int .u8 32), .lit (.int .u8 23), .lit (.int .u8 11), .lit (.int .u8 54), .lit (.int .u8 26), .lit (.int .u8 40), .lit (.int .u8 15), .lit (.int .u8 34), .lit (.int .u8 20), .lit (.int .u8 31), .lit (.int .u8 10), .lit (.int .u8 25), .lit (.int .u8 14), .lit (.int .u8 19), .lit (.int .u8 9), .lit (.int .u8 13), .lit (.int .u8 8), .lit (.int .u8 7), .lit (.int .u8 6)]

/-- 'laws.FnExactCountRules': WHATEVER THE INPUT: true; the input reads as it did. -/
def fnExactCountRulesSpec : ChangeSpec := { name := "fnExactCountRules", fn := fun _ => fun
  | [d] => { results := [.lit (.bool true)], args := [d] }
  | _ => none }
def fnExactCountRulesRow : OpenClaim := { program := "ytbflblmkdnhboaadoor", sum := "e796e92b7ed3536fafb79d437f7f24ac6301ac16a07456c8d09e2c8de2a8ce76", func := "loop.example/g00596/laws.FnExactCountRules", spec := "fnExactCountRules", unfollowed := true, recurses := true, named := ["math/bits.deBruijn32tab", "math/bits.deBruijn64tab"], apart := false, laid := [("math/bits.deBruijn32tab", laid_math_bits_deBruijn32tab), ("math/bits.deBruijn64tab", laid_math_bits_deBruijn64tab)] }
def FnExactCountRulesSaid : Prop := fnExactCountRulesRow.holds Tryd.pinned (OpenSpec.ofChange fnExactCountRulesSpec)

/-- ITS FALSE NEIGHBOUR: 'it returns false'. Refute it at one input. -/
def fnExactCountRulesWrong : ChangeSpec := { name := "fnExactCountRules", fn := fun _ => fun
  | [d] => { results := [.lit (.bool false)], args := [d] }
  | _ => none }
def FnExactCountRulesWrongFalsely : Prop := fnExactCountRulesRow.holds Tryd.pinned (OpenSpec.ofChange fnExactCountRulesWrong)

/-- 'laws.FnExactModelsOf': WHATEVER THE INPUT: true; the input reads as it did. -/
def fnExactModelsOfSpec : ChangeSpec := { name := "fnExactModelsOf", fn := fun _ => fun
  | [d1, d2] => { results := [.lit (.bool true)], args := [d1, d2] }
  | _ => none }
def fnExactModelsOfRow : OpenClaim := { program := "ytbflblmkdnhboaadoor", sum := "e796e92b7ed3536fafb79d437f7f24ac6301ac16a07456c8d09e2c8de2a8ce76", func := "loop.example/g00596/laws.FnExactModelsOf", spec := "fnExactModelsOf", unfollowed := true, recurses := true, named := ["math/bits.deBruijn32tab", "math/bits.deBruijn64tab"], apart := false, laid := [("math/bits.deBruijn32tab", laid_math_bits_deBruijn32tab), ("math/bits.deBruijn64tab", laid_math_bits_deBruijn64tab)] }
def FnExactModelsOfSaid : Prop := fnExactModelsOfRow.holds Tryd.pinned (OpenSpec.ofChange fnExactModelsOfSpec)

/-- ITS FALSE NEIGHBOUR: 'it returns false'. Refute it at one input. -/
def fnExactModelsOfWrong : ChangeSpec := { name := "fnExactModelsOf", fn := fun _ => fun
  | [d1, d2] => { results := [.lit (.bool false)], args := [d1, d2] }
  | _ => none }
def FnExactModelsOfWrongFalsely : Prop := fnExactModelsOfRow.holds Tryd.pinned (OpenSpec.ofChange fnExactModelsOfWrong)

/-- 'laws.FnExactProperPremises': WHATEVER THE INPUT: true; the input reads as it did. -/
def fnExactProperPremisesSpec : ChangeSpec := { name := "fnExactProperPremises", fn := fun _ => fun
  | [d] => { results := [.lit (.bool true)], args := [d] }
  | _ => none }
def fnExactProperPremisesRow : OpenClaim := { program := "ytbflblmkdnhboaadoor", sum := "e796e92b7ed3536fafb79d437f7f24ac6301ac16a07456c8d09e2c8de2a8ce76", func := "loop.example/g00596/laws.FnExactProperPremises", spec := "fnExactProperPremises", unfollowed := true, recurses := true, named := ["math/bits.deBruijn32tab", "math/bits.deBruijn64tab"], apart := false, laid := [("math/bits.deBruijn32tab", laid_math_bits_deBruijn32tab), ("math/bits.deBruijn64tab", laid_math_bits_deBruijn64tab)] }
def FnExactProperPremisesSaid : Prop := fnExactProperPremisesRow.holds Tryd.pinned (OpenSpec.ofChange fnExactProperPremisesSpec)

/-- ITS FALSE NEIGHBOUR: 'it returns false'. Refute it at one input. -/
def fnExactProperPremisesWrong : ChangeSpec := { name := "fnExactProperPremises", fn := fun _ => fun
  | [d] => { results := [.lit (.bool false)], args := [d] }
  | _ => none }
def FnExactProperPremisesWrongFalsely : Prop := fnExactProperPremisesRow.holds Tryd.pinned (OpenSpec.ofChange fnExactProperPremisesWrong)

/-- 'laws.FnExactIrreducibleModels': WHATEVER THE INPUT: true; the input reads as it did. -/
def fnExactIrreducibleModelsSpec : ChangeSpec := { name := "fnExactIrreducibleModels", fn := fun _ => fun
  | [d1, d2] => { results := [.lit (.bool true)], args := [d1, d2] }
  | _ => none }
def fnExactIrreducibleModelsRow : OpenClaim := { program := "ytbflblmkdnhboaadoor", sum := "e796e92b7ed3536fafb79d437f7f24ac6301ac16a07456c8d09e2c8de2a8ce76", func := "loop.example/g00596/laws.FnExactIrreducibleModels", spec := "fnExactIrreducibleModels", unfollowed := true, recurses := true, named := ["math/bits.deBruijn32tab", "math/bits.deBruijn64tab"], apart := false, laid := [("math/bits.deBruijn32tab", laid_math_bits_deBruijn32tab), ("math/bits.deBruijn64tab", laid_math_bits_deBruijn64tab)] }
def FnExactIrreducibleModelsSaid : Prop := fnExactIrreducibleModelsRow.holds Tryd.pinned (OpenSpec.ofChange fnExactIrreducibleModelsSpec)

/-- ITS FALSE NEIGHBOUR: 'it returns false'. Refute it at one input. -/
def fnExactIrreducibleModelsWrong : ChangeSpec := { name := "fnExactIrreducibleModels", fn := fun _ => fun
  | [d1, d2] => { results := [.lit (.bool false)], args := [d1, d2] }
  | _ => none }
def FnExactIrreducibleModelsWrongFalsely : Prop := fnExactIrreducibleModelsRow.holds Tryd.pinned (OpenSpec.ofChange fnExactIrreducibleModelsWrong)

/-- 'laws.FnExactContextOfRules': WHATEVER THE INPUT: true; the input reads as it did. -/
def fnExactContextOfRulesSpec : ChangeSpec := { name := "fnExactContextOfRules", fn := fun _ => fun
  | [d1, d2] => { results := [.lit (.bool true)], args := [d1, d2] }
  | _ => none }
def fnExactContextOfRulesRow : OpenClaim := { program := "ytbflblmkdnhboaadoor", sum := "e796e92b7ed3536fafb79d437f7f24ac6301ac16a07456c8d09e2c8de2a8ce76", func := "loop.example/g00596/laws.FnExactContextOfRules", spec := "fnExactContextOfRules", unfollowed := true, recurses := true, named := ["math/bits.deBruijn32tab", "math/bits.deBruijn64tab"], apart := false, laid := [("math/bits.deBruijn32tab", laid_math_bits_deBruijn32tab), ("math/bits.deBruijn64tab", laid_math_bits_deBruijn64tab)] }
def FnExactContextOfRulesSaid : Prop := fnExactContextOfRulesRow.holds Tryd.pinned (OpenSpec.ofChange fnExactContextOfRulesSpec)

/-- ITS FALSE NEIGHBOUR: 'it returns false'. Refute it at one input. -/
def fnExactContextOfRulesWrong : ChangeSpec := { name := "fnExactContextOfRules", fn := fun _ => fun
  | [d1, d2] => { results := [.lit (.bool false)], args := [d1, d2] }
  | _ => none }
def FnExactContextOfRulesWrongFalsely : Prop := fnExactContextOfRulesRow.holds Tryd.pinned (OpenSpec.ofChange fnExactContextOfRulesWrong)

/-- 'laws.FnExactDirectBase': WHATEVER THE INPUT: true; the input reads as it did. -/
def fnExactDirectBaseSpec : ChangeSpec := { name := "fnExactDirectBase", fn := fun _ => fun
  | [d] => { results := [.lit (.bool true)], args := [d] }
  | _ => none }
def fnExactDirectBaseRow : OpenClaim := { program := "ytbflblmkdnhboaadoor", sum := "e796e92b7ed3536fafb79d437f7f24ac6301ac16a07456c8d09e2c8de2a8ce76", func := "loop.example/g00596/laws.FnExactDirectBase", spec := "fnExactDirectBase", unfollowed := true, recurses := true, named := ["math/bits.deBruijn32tab", "math/bits.deBruijn64tab"], apart := false, laid := [("math/bits.deBruijn32tab", laid_math_bits_deBruijn32tab), ("math/bits.deBruijn64tab", laid_math_bits_deBruijn64tab)] }
def FnExactDirectBaseSaid : Prop := fnExactDirectBaseRow.holds Tryd.pinned (OpenSpec.ofChange fnExactDirectBaseSpec)

/-- ITS FALSE NEIGHBOUR: 'it returns false'. Refute it at one input. -/
def fnExactDirectBaseWrong : ChangeSpec := { name := "fnExactDirectBase", fn := fun _ => fun
  | [d] => { results := [.lit (.bool false)], args := [d] }
  | _ => none }
def FnExactDirectBaseWrongFalsely : Prop := fnExactDirectBaseRow.holds Tryd.pinned (OpenSpec.ofChange fnExactDirectBaseWrong)

/-- 'laws.FnExactShortRules': WHATEVER THE INPUT: true; the input reads as it did. -/
def fnExactShortRulesSpec : ChangeSpec := { name := "fnExactShortRules", fn := fun _ => fun
  | [d1, d2] => { results := [.lit (.bool true)], args := [d1, d2] }
  | _ => none }
def fnExactShortRulesRow : OpenClaim := { program := "ytbflblmkdnhboaadoor", sum := "e796e92b7ed3536fafb79d437f7f24ac6301ac16a07456c8d09e2c8de2a8ce76", func := "loop.example/g00596/laws.FnExactShortRules", spec := "fnExactShortRules", unfollowed := true, recurses := true, named := ["math/bits.deBruijn32tab", "math/bits.deBruijn64tab"], apart := false, laid := [("math/bits.deBruijn32tab", laid_math_bits_deBruijn32tab), ("math/bits.deBruijn64tab", laid_math_bits_deBruijn64tab)] }
def FnExactShortRulesSaid : Prop := fnExactShortRulesRow.holds Tryd.pinned (OpenSpec.ofChange fnExactShortRulesSpec)

/-- ITS FALSE NEIGHBOUR: 'it returns false'. Refute it at one input. -/
def fnExactShortRulesWrong : ChangeSpec := { name := "fnExactShortRules", fn := fun _ => fun
  | [d1, d2] => { results := [.lit (.bool false)], args := [d1, d2] }
  | _ => none }
def FnExactShortRulesWrongFalsely : Prop := fnExactShortRulesRow.holds Tryd.pinned (OpenSpec.ofChange fnExactShortRulesWrong)

/-- 'laws.FnExactPseudoIntents': WHATEVER THE INPUT: true; the input reads as it did. -/
def fnExactPseudoIntentsSpec : ChangeSpec := { name := "fnExactPseudoIntents", fn := fun _ => fun
  | [d] => { results := [.lit (.bool true)], args := [d] }
  | _ => none }
def fnExactPseudoIntentsRow : OpenClaim := { program := "ytbflblmkdnhboaadoor", sum := "e796e92b7ed3536fafb79d437f7f24ac6301ac16a07456c8d09e2c8de2a8ce76", func := "loop.example/g00596/laws.FnExactPseudoIntents", spec := "fnExactPseudoIntents", unfollowed := true, recurses := true, named := ["math/bits.deBruijn32tab", "math/bits.deBruijn64tab"], apart := false, laid := [("math/bits.deBruijn32tab", laid_math_bits_deBruijn32tab), ("math/bits.deBruijn64tab", laid_math_bits_deBruijn64tab)] }
def FnExactPseudoIntentsSaid : Prop := fnExactPseudoIntentsRow.holds Tryd.pinned (OpenSpec.ofChange fnExactPseudoIntentsSpec)

/-- ITS FALSE NEIGHBOUR: 'it returns false'. Refute it at one input. -/
def fnExactPseudoIntentsWrong : ChangeSpec := { name := "fnExactPseudoIntents", fn := fun _ => fun
  | [d] => { results := [.lit (.bool false)], args := [d] }
  | _ => none }
def FnExactPseudoIntentsWrongFalsely : Prop := fnExactPseudoIntentsRow.holds Tryd.pinned (OpenSpec.ofChange fnExactPseudoIntentsWrong)

/-- 'laws.FnExactStemBase': WHATEVER THE INPUT: true; the input reads as it did. -/
def fnExactStemBaseSpec : ChangeSpec := { name := "fnExactStemBase", fn := fun _ => fun
  | [d] => { results := [.lit (.bool true)], args := [d] }
  | _ => none }
def fnExactStemBaseRow : OpenClaim := { program := "ytbflblmkdnhboaadoor", sum := "e796e92b7ed3536fafb79d437f7f24ac6301ac16a07456c8d09e2c8de2a8ce76", func := "loop.example/g00596/laws.FnExactStemBase", spec := "fnExactStemBase", unfollowed := true, recurses := true, named := ["math/bits.deBruijn32tab", "math/bits.deBruijn64tab"], apart := false, laid := [("math/bits.deBruijn32tab", laid_math_bits_deBruijn32tab), ("math/bits.deBruijn64tab", laid_math_bits_deBruijn64tab)] }
def FnExactStemBaseSaid : Prop := fnExactStemBaseRow.holds Tryd.pinned (OpenSpec.ofChange fnExactStemBaseSpec)

/-- ITS FALSE NEIGHBOUR: 'it returns false'. Refute it at one input. -/
def fnExactStemBaseWrong : ChangeSpec := { name := "fnExactStemBase", fn := fun _ => fun
  | [d] => { results := [.lit (.bool false)], args := [d] }
  | _ => none }
def FnExactStemBaseWrongFalsely : Prop := fnExactStemBaseRow.holds Tryd.pinned (OpenSpec.ofChange fnExactStemBaseWrong)

/- THE SECOND FORM. 'bulk': how many values and letters a reading holds, each counted each time it is reached (what is shared counts as often as it is met; a slice's spare places count too). A statement '..UptoSaid' is the law's where the arguments, and the package variables that the reading takes, are together of bulk at most 1048576: NARROWER than '..Said'. Prove '..Said' where nothing that the law and all that it calls make is longer than what came in: it says more and counts as full. Else prove '..UptoSaid'. A law counts once. -/
mutual
def uptoBulk {H : Type} : DataW H → Nat
  | .lit (.string bytes) => bytes.length + 1
  | .lit _ => 1
  | .nil => 1
  | .ptr d => uptoBulk d + 1
  | .slice elems spare => uptoBulkAll elems + uptoBulkAll spare + 1
  | .agg parts => uptoBulkAll parts + 1
  | .iface _ d => uptoBulk d + 1
  | .map entries => uptoBulkEntries entries + 1
  | .held _ => 1
def uptoBulkAll {H : Type} : List (DataW H) → Nat
  | [] => 0
  | d :: r => uptoBulk d + uptoBulkAll r
def uptoBulkEntries {H : Type} : List (Lit × DataW H) → Nat
  | [] => 0
  | x :: r => uptoBulkEntry x + uptoBulkEntries r
def uptoBulkEntry {H : Type} : Lit × DataW H → Nat
  | (.string bytes, d) => bytes.length + uptoBulk d + 1
  | (_, d) => uptoBulk d + 1
 end
def uptoSmall : (H : Type) → List (DataW H) → Bool := fun _ ds => decide (uptoBulkAll ds ≤ 1048576)
def OpenSpec.upto (s : _root_.Go.ChangeSpec) : _root_.Go.OpenSpec := { _root_.Go.OpenSpec.ofChange s with cond := some uptoSmall }

/-- 'laws.FnExactCountRules', WHERE WHAT IT READS IS OF BULK AT MOST 1048576: true; the input reads as it did. -/
def fnExactCountRulesUptoRow : OpenClaim := { program := "ytbflblmkdnhboaadoor", sum := "e796e92b7ed3536fafb79d437f7f24ac6301ac16a07456c8d09e2c8de2a8ce76", func := "loop.example/g00596/laws.FnExactCountRules", spec := "fnExactCountRules", unfollowed := true, recurses := true, named := ["math/bits.deBruijn32tab", "math/bits.deBruijn64tab"], apart := false, laid := [("math/bits.deBruijn32tab", laid_math_bits_deBruijn32tab), ("math/bits.deBruijn64tab", laid_math_bits_deBruijn64tab)], narrowed := true }
def FnExactCountRulesUptoSaid : Prop := fnExactCountRulesUptoRow.holds Tryd.pinned (OpenSpec.upto fnExactCountRulesSpec)

/-- 'laws.FnExactModelsOf', WHERE WHAT IT READS IS OF BULK AT MOST 1048576: true; the input reads as it did. -/
def fnExactModelsOfUptoRow : OpenClaim := { program := "ytbflblmkdnhboaadoor", sum := "e796e92b7ed3536fafb79d437f7f24ac6301ac16a07456c8d09e2c8de2a8ce76", func := "loop.example/g00596/laws.FnExactModelsOf", spec := "fnExactModelsOf", unfollowed := true, recurses := true, named := ["math/bits.deBruijn32tab", "math/bits.deBruijn64tab"], apart := false, laid := [("math/bits.deBruijn32tab", laid_math_bits_deBruijn32tab), ("math/bits.deBruijn64tab", laid_math_bits_deBruijn64tab)], narrowed := true }
def FnExactModelsOfUptoSaid : Prop := fnExactModelsOfUptoRow.holds Tryd.pinned (OpenSpec.upto fnExactModelsOfSpec)

/-- 'laws.FnExactProperPremises', WHERE WHAT IT READS IS OF BULK AT MOST 1048576: true; the input reads as it did. -/
def fnExactProperPremisesUptoRow : OpenClaim := { program := "ytbflblmkdnhboaadoor", sum := "e796e92b7ed3536fafb79d437f7f24ac6301ac16a07456c8d09e2c8de2a8ce76", func := "loop.example/g00596/laws.FnExactProperPremises", spec := "fnExactProperPremises", unfollowed := true, recurses := true, named := ["math/bits.deBruijn32tab", "math/bits.deBruijn64tab"], apart := false, laid := [("math/bits.deBruijn32tab", laid_math_bits_deBruijn32tab), ("math/bits.deBruijn64tab", laid_math_bits_deBruijn64tab)], narrowed := true }
def FnExactProperPremisesUptoSaid : Prop := fnExactProperPremisesUptoRow.holds Tryd.pinned (OpenSpec.upto fnExactProperPremisesSpec)

/-- 'laws.FnExactIrreducibleModels', WHERE WHAT IT READS IS OF BULK AT MOST 1048576: true; the input reads as it did. -/
def fnExactIrreducibleModelsUptoRow : OpenClaim := { program := "ytbflblmkdnhboaadoor", sum := "e796e92b7ed3536fafb79d437f7f24ac6301ac16a07456c8d09e2c8de2a8ce76", func := "loop.example/g00596/laws.FnExactIrreducibleModels", spec := "fnExactIrreducibleModels", unfollowed := true, recurses := true, named := ["math/bits.deBruijn32tab", "math/bits.deBruijn64tab"], apart := false, laid := [("math/bits.deBruijn32tab", laid_math_bits_deBruijn32tab), ("math/bits.deBruijn64tab", laid_math_bits_deBruijn64tab)], narrowed := true }
def FnExactIrreducibleModelsUptoSaid : Prop := fnExactIrreducibleModelsUptoRow.holds Tryd.pinned (OpenSpec.upto fnExactIrreducibleModelsSpec)

/-- 'laws.FnExactContextOfRules', WHERE WHAT IT READS IS OF BULK AT MOST 1048576: true; the input reads as it did. -/
def fnExactContextOfRulesUptoRow : OpenClaim := { program := "ytbflblmkdnhboaadoor", sum := "e796e92b7ed3536fafb79d437f7f24ac6301ac16a07456c8d09e2c8de2a8ce76", func := "loop.example/g00596/laws.FnExactContextOfRules", spec := "fnExactContextOfRules", unfollowed := true, recurses := true, named := ["math/bits.deBruijn32tab", "math/bits.deBruijn64tab"], apart := false, laid := [("math/bits.deBruijn32tab", laid_math_bits_deBruijn32tab), ("math/bits.deBruijn64tab", laid_math_bits_deBruijn64tab)], narrowed := true }
def FnExactContextOfRulesUptoSaid : Prop := fnExactContextOfRulesUptoRow.holds Tryd.pinned (OpenSpec.upto fnExactContextOfRulesSpec)

/-- 'laws.FnExactDirectBase', WHERE WHAT IT READS IS OF BULK AT MOST 1048576: true; the input reads as it did. -/
def fnExactDirectBaseUptoRow : OpenClaim := { program := "ytbflblmkdnhboaadoor", sum := "e796e92b7ed3536fafb79d437f7f24ac6301ac16a07456c8d09e2c8de2a8ce76", func := "loop.example/g00596/laws.FnExactDirectBase", spec := "fnExactDirectBase", unfollowed := true, recurses := true, named := ["math/bits.deBruijn32tab", "math/bits.deBruijn64tab"], apart := false, laid := [("math/bits.deBruijn32tab", laid_math_bits_deBruijn32tab), ("math/bits.deBruijn64tab", laid_math_bits_deBruijn64tab)], narrowed := true }
def FnExactDirectBaseUptoSaid : Prop := fnExactDirectBaseUptoRow.holds Tryd.pinned (OpenSpec.upto fnExactDirectBaseSpec)

/-- 'laws.FnExactShortRules', WHERE WHAT IT READS IS OF BULK AT MOST 1048576: true; the input reads as it did. -/
def fnExactShortRulesUptoRow : OpenClaim := { program := "ytbflblmkdnhboaadoor", sum := "e796e92b7ed3536fafb79d437f7f24ac6301ac16a07456c8d09e2c8de2a8ce76", func := "loop.example/g00596/laws.FnExactShortRules", spec := "fnExactShortRules", unfollowed := true, recurses := true, named := ["math/bits.deBruijn32tab", "math/bits.deBruijn64tab"], apart := false, laid := [("math/bits.deBruijn32tab", laid_math_bits_deBruijn32tab), ("math/bits.deBruijn64tab", laid_math_bits_deBruijn64tab)], narrowed := true }
def FnExactShortRulesUptoSaid : Prop := fnExactShortRulesUptoRow.holds Tryd.pinned (OpenSpec.upto fnExactShortRulesSpec)

/-- 'laws.FnExactPseudoIntents', WHERE WHAT IT READS IS OF BULK AT MOST 1048576: true; the input reads as it did. -/
def fnExactPseudoIntentsUptoRow : OpenClaim := { program := "ytbflblmkdnhboaadoor", sum := "e796e92b7ed3536fafb79d437f7f24ac6301ac16a07456c8d09e2c8de2a8ce76", func := "loop.example/g00596/laws.FnExactPseudoIntents", spec := "fnExactPseudoIntents", unfollowed := true, recurses := true, named := ["math/bits.deBruijn32tab", "math/bits.deBruijn64tab"], apart := false, laid := [("math/bits.deBruijn32tab", laid_math_bits_deBruijn32tab), ("math/bits.deBruijn64tab", laid_math_bits_deBruijn64tab)], narrowed := true }
def FnExactPseudoIntentsUptoSaid : Prop := fnExactPseudoIntentsUptoRow.holds Tryd.pinned (OpenSpec.upto fnExactPseudoIntentsSpec)

/-- 'laws.FnExactStemBase', WHERE WHAT IT READS IS OF BULK AT MOST 1048576: true; the input reads as it did. -/
def fnExactStemBaseUptoRow : OpenClaim := { program := "ytbflblmkdnhboaadoor", sum := "e796e92b7ed3536fafb79d437f7f24ac6301ac16a07456c8d09e2c8de2a8ce76", func := "loop.example/g00596/laws.FnExactStemBase", spec := "fnExactStemBase", unfollowed := true, recurses := true, named := ["math/bits.deBruijn32tab", "math/bits.deBruijn64tab"], apart := false, laid := [("math/bits.deBruijn32tab", laid_math_bits_deBruijn32tab), ("math/bits.deBruijn64tab", laid_math_bits_deBruijn64tab)], narrowed := true }
def FnExactStemBaseUptoSaid : Prop := fnExactStemBaseUptoRow.holds Tryd.pinned (OpenSpec.upto fnExactStemBaseSpec)

end Rows
end Go.Proofs.YtbflblmkdnhboaaDoor
