/-
  No cell of these rows narrows 'for every input' (looked for: loops, veiled, ifaces, maps, wideKeys, modest, calm, conditions, laid).
  DERIVED. THE GIVEN ROWS OF THIS SEAT. 12 by the template 'for every input the law returns true; each argument reads behind the call as it read before'; 0 by the template 'total and deterministic' (their statements: YtemhlblajnlogaaTotals.lean).
  GIVEN WITH THE SEED: the statements are not yours to turn. If you find one false, say at which input.
  Laid BY PROGRAM, IN A SANDBOX (cutbox-rows.mjs): the forced cells as the released guide's own fill.sh prints them over the translation a53d67a75cbd1156… (all of the seat's roots in one cut). By AI agents, Wed Nov 11 2026. No macro, syntax, notation, axiom, sorry.
-/
import Derived.Test.YtemhlblajnlogaaChecked
import GoSem.Claim
import GoSem.ClaimJoined
import GoSem.ClaimMapViews
import Derived.JoinedTies
import Derived.KernelRfl
namespace Go.Proofs.Ytemhlblajnlogaa
/- THE CELL 'sum', in the pinned program and in every row, IS THE sha256 OF THE DUMP (.gsa) THAT YtemhlblajnlogaaProg.lean LOADS. Nothing in Lean hashes anything: it is a label: what it is worth is what the hold of that sum in a sandbox is worth. -/
noncomputable def Try.pinned : Pinned := { name := "ytemhlblajnlogaa", sum := "a53d67a75cbd1156921f362de5fb7b2fb0e74730b52226c03668c47659c788ab", checked := Try.checked }
namespace Rows
def none {H : Type} : Left H := { results := [], args := [] }

/-- 'laws.FnExactIsReducibleObject': WHATEVER THE INPUT: true; the input reads as it did. -/
def fnExactIsReducibleObjectSpec : ChangeSpec := { name := "fnExactIsReducibleObject", fn := fun _ => fun
  | [d1, d2] => { results := [.lit (.bool true)], args := [d1, d2] }
  | _ => none }
def fnExactIsReducibleObjectRow : OpenClaim := { program := "ytemhlblajnlogaa", sum := "a53d67a75cbd1156921f362de5fb7b2fb0e74730b52226c03668c47659c788ab", func := "loop.example/g00596/laws.FnExactIsReducibleObject", spec := "fnExactIsReducibleObject", unfollowed := true, recurses := true, apart := false }
def FnExactIsReducibleObjectSaid : Prop := fnExactIsReducibleObjectRow.holds Try.pinned (OpenSpec.ofChange fnExactIsReducibleObjectSpec)

/-- ITS FALSE NEIGHBOUR: 'it returns false'. Refute it at one input. -/
def fnExactIsReducibleObjectWrong : ChangeSpec := { name := "fnExactIsReducibleObject", fn := fun _ => fun
  | [d1, d2] => { results := [.lit (.bool false)], args := [d1, d2] }
  | _ => none }
def FnExactIsReducibleObjectWrongFalsely : Prop := fnExactIsReducibleObjectRow.holds Try.pinned (OpenSpec.ofChange fnExactIsReducibleObjectWrong)

/-- 'laws.FnExactIsIrreducibleObject': WHATEVER THE INPUT: true; the input reads as it did. -/
def fnExactIsIrreducibleObjectSpec : ChangeSpec := { name := "fnExactIsIrreducibleObject", fn := fun _ => fun
  | [d1, d2] => { results := [.lit (.bool true)], args := [d1, d2] }
  | _ => none }
def fnExactIsIrreducibleObjectRow : OpenClaim := { program := "ytemhlblajnlogaa", sum := "a53d67a75cbd1156921f362de5fb7b2fb0e74730b52226c03668c47659c788ab", func := "loop.example/g00596/laws.FnExactIsIrreducibleObject", spec := "fnExactIsIrreducibleObject", unfollowed := true, recurses := true, apart := false }
def FnExactIsIrreducibleObjectSaid : Prop := fnExactIsIrreducibleObjectRow.holds Try.pinned (OpenSpec.ofChange fnExactIsIrreducibleObjectSpec)

/-- ITS FALSE NEIGHBOUR: 'it returns false'. Refute it at one input. -/
def fnExactIsIrreducibleObjectWrong : ChangeSpec := { name := "fnExactIsIrreducibleObject", fn := fun _ => fun
  | [d1, d2] => { results := [.lit (.bool false)], args := [d1, d2] }
  | _ => none }
def FnExactIsIrreducibleObjectWrongFalsely : Prop := fnExactIsIrreducibleObjectRow.holds Try.pinned (OpenSpec.ofChange fnExactIsIrreducibleObjectWrong)

/-- 'laws.FnExactDownArrows': WHATEVER THE INPUT: true; the input reads as it did. -/
def fnExactDownArrowsSpec : ChangeSpec := { name := "fnExactDownArrows", fn := fun _ => fun
  | [d1, d2] => { results := [.lit (.bool true)], args := [d1, d2] }
  | _ => none }
def fnExactDownArrowsRow : OpenClaim := { program := "ytemhlblajnlogaa", sum := "a53d67a75cbd1156921f362de5fb7b2fb0e74730b52226c03668c47659c788ab", func := "loop.example/g00596/laws.FnExactDownArrows", spec := "fnExactDownArrows", unfollowed := true, recurses := true, apart := false }
def FnExactDownArrowsSaid : Prop := fnExactDownArrowsRow.holds Try.pinned (OpenSpec.ofChange fnExactDownArrowsSpec)

/-- ITS FALSE NEIGHBOUR: 'it returns false'. Refute it at one input. -/
def fnExactDownArrowsWrong : ChangeSpec := { name := "fnExactDownArrows", fn := fun _ => fun
  | [d1, d2] => { results := [.lit (.bool false)], args := [d1, d2] }
  | _ => none }
def FnExactDownArrowsWrongFalsely : Prop := fnExactDownArrowsRow.holds Try.pinned (OpenSpec.ofChange fnExactDownArrowsWrong)

/-- 'laws.FnExactIsReducibleAttribute': WHATEVER THE INPUT: true; the input reads as it did. -/
def fnExactIsReducibleAttributeSpec : ChangeSpec := { name := "fnExactIsReducibleAttribute", fn := fun _ => fun
  | [d1, d2] => { results := [.lit (.bool true)], args := [d1, d2] }
  | _ => none }
def fnExactIsReducibleAttributeRow : OpenClaim := { program := "ytemhlblajnlogaa", sum := "a53d67a75cbd1156921f362de5fb7b2fb0e74730b52226c03668c47659c788ab", func := "loop.example/g00596/laws.FnExactIsReducibleAttribute", spec := "fnExactIsReducibleAttribute", unfollowed := true, recurses := true, apart := false }
def FnExactIsReducibleAttributeSaid : Prop := fnExactIsReducibleAttributeRow.holds Try.pinned (OpenSpec.ofChange fnExactIsReducibleAttributeSpec)

/-- ITS FALSE NEIGHBOUR: 'it returns false'. Refute it at one input. -/
def fnExactIsReducibleAttributeWrong : ChangeSpec := { name := "fnExactIsReducibleAttribute", fn := fun _ => fun
  | [d1, d2] => { results := [.lit (.bool false)], args := [d1, d2] }
  | _ => none }
def FnExactIsReducibleAttributeWrongFalsely : Prop := fnExactIsReducibleAttributeRow.holds Try.pinned (OpenSpec.ofChange fnExactIsReducibleAttributeWrong)

/-- 'laws.FnExactIsIrreducibleAttribute': WHATEVER THE INPUT: true; the input reads as it did. -/
def fnExactIsIrreducibleAttributeSpec : ChangeSpec := { name := "fnExactIsIrreducibleAttribute", fn := fun _ => fun
  | [d1, d2] => { results := [.lit (.bool true)], args := [d1, d2] }
  | _ => none }
def fnExactIsIrreducibleAttributeRow : OpenClaim := { program := "ytemhlblajnlogaa", sum := "a53d67a75cbd1156921f362de5fb7b2fb0e74730b52226c03668c47659c788ab", func := "loop.example/g00596/laws.FnExactIsIrreducibleAttribute", spec := "fnExactIsIrreducibleAttribute", unfollowed := true, recurses := true, apart := false }
def FnExactIsIrreducibleAttributeSaid : Prop := fnExactIsIrreducibleAttributeRow.holds Try.pinned (OpenSpec.ofChange fnExactIsIrreducibleAttributeSpec)

/-- ITS FALSE NEIGHBOUR: 'it returns false'. Refute it at one input. -/
def fnExactIsIrreducibleAttributeWrong : ChangeSpec := { name := "fnExactIsIrreducibleAttribute", fn := fun _ => fun
  | [d1, d2] => { results := [.lit (.bool false)], args := [d1, d2] }
  | _ => none }
def FnExactIsIrreducibleAttributeWrongFalsely : Prop := fnExactIsIrreducibleAttributeRow.holds Try.pinned (OpenSpec.ofChange fnExactIsIrreducibleAttributeWrong)

/-- 'laws.FnExactUpArrows': WHATEVER THE INPUT: true; the input reads as it did. -/
def fnExactUpArrowsSpec : ChangeSpec := { name := "fnExactUpArrows", fn := fun _ => fun
  | [d1, d2] => { results := [.lit (.bool true)], args := [d1, d2] }
  | _ => none }
def fnExactUpArrowsRow : OpenClaim := { program := "ytemhlblajnlogaa", sum := "a53d67a75cbd1156921f362de5fb7b2fb0e74730b52226c03668c47659c788ab", func := "loop.example/g00596/laws.FnExactUpArrows", spec := "fnExactUpArrows", unfollowed := true, recurses := true, apart := false }
def FnExactUpArrowsSaid : Prop := fnExactUpArrowsRow.holds Try.pinned (OpenSpec.ofChange fnExactUpArrowsSpec)

/-- ITS FALSE NEIGHBOUR: 'it returns false'. Refute it at one input. -/
def fnExactUpArrowsWrong : ChangeSpec := { name := "fnExactUpArrows", fn := fun _ => fun
  | [d1, d2] => { results := [.lit (.bool false)], args := [d1, d2] }
  | _ => none }
def FnExactUpArrowsWrongFalsely : Prop := fnExactUpArrowsRow.holds Try.pinned (OpenSpec.ofChange fnExactUpArrowsWrong)

/-- 'laws.FnExactHoldsIn': WHATEVER THE INPUT: true; the input reads as it did. -/
def fnExactHoldsInSpec : ChangeSpec := { name := "fnExactHoldsIn", fn := fun _ => fun
  | [d1, d2] => { results := [.lit (.bool true)], args := [d1, d2] }
  | _ => none }
def fnExactHoldsInRow : OpenClaim := { program := "ytemhlblajnlogaa", sum := "a53d67a75cbd1156921f362de5fb7b2fb0e74730b52226c03668c47659c788ab", func := "loop.example/g00596/laws.FnExactHoldsIn", spec := "fnExactHoldsIn", unfollowed := true, recurses := true, apart := false }
def FnExactHoldsInSaid : Prop := fnExactHoldsInRow.holds Try.pinned (OpenSpec.ofChange fnExactHoldsInSpec)

/-- ITS FALSE NEIGHBOUR: 'it returns false'. Refute it at one input. -/
def fnExactHoldsInWrong : ChangeSpec := { name := "fnExactHoldsIn", fn := fun _ => fun
  | [d1, d2] => { results := [.lit (.bool false)], args := [d1, d2] }
  | _ => none }
def FnExactHoldsInWrongFalsely : Prop := fnExactHoldsInRow.holds Try.pinned (OpenSpec.ofChange fnExactHoldsInWrong)

/-- 'laws.FnExactDoubleArrows': WHATEVER THE INPUT: true; the input reads as it did. -/
def fnExactDoubleArrowsSpec : ChangeSpec := { name := "fnExactDoubleArrows", fn := fun _ => fun
  | [d1, d2] => { results := [.lit (.bool true)], args := [d1, d2] }
  | _ => none }
def fnExactDoubleArrowsRow : OpenClaim := { program := "ytemhlblajnlogaa", sum := "a53d67a75cbd1156921f362de5fb7b2fb0e74730b52226c03668c47659c788ab", func := "loop.example/g00596/laws.FnExactDoubleArrows", spec := "fnExactDoubleArrows", unfollowed := true, recurses := true, apart := false }
def FnExactDoubleArrowsSaid : Prop := fnExactDoubleArrowsRow.holds Try.pinned (OpenSpec.ofChange fnExactDoubleArrowsSpec)

/-- ITS FALSE NEIGHBOUR: 'it returns false'. Refute it at one input. -/
def fnExactDoubleArrowsWrong : ChangeSpec := { name := "fnExactDoubleArrows", fn := fun _ => fun
  | [d1, d2] => { results := [.lit (.bool false)], args := [d1, d2] }
  | _ => none }
def FnExactDoubleArrowsWrongFalsely : Prop := fnExactDoubleArrowsRow.holds Try.pinned (OpenSpec.ofChange fnExactDoubleArrowsWrong)

/-- 'laws.FnExactDropObjects': WHATEVER THE INPUT: true; the input reads as it did. -/
def fnExactDropObjectsSpec : ChangeSpec := { name := "fnExactDropObjects", fn := fun _ => fun
  | [d1, d2] => { results := [.lit (.bool true)], args := [d1, d2] }
  | _ => none }
def fnExactDropObjectsRow : OpenClaim := { program := "ytemhlblajnlogaa", sum := "a53d67a75cbd1156921f362de5fb7b2fb0e74730b52226c03668c47659c788ab", func := "loop.example/g00596/laws.FnExactDropObjects", spec := "fnExactDropObjects", unfollowed := true, recurses := true, apart := false }
def FnExactDropObjectsSaid : Prop := fnExactDropObjectsRow.holds Try.pinned (OpenSpec.ofChange fnExactDropObjectsSpec)

/-- ITS FALSE NEIGHBOUR: 'it returns false'. Refute it at one input. -/
def fnExactDropObjectsWrong : ChangeSpec := { name := "fnExactDropObjects", fn := fun _ => fun
  | [d1, d2] => { results := [.lit (.bool false)], args := [d1, d2] }
  | _ => none }
def FnExactDropObjectsWrongFalsely : Prop := fnExactDropObjectsRow.holds Try.pinned (OpenSpec.ofChange fnExactDropObjectsWrong)

/-- 'laws.FnExactDropAttributes': WHATEVER THE INPUT: true; the input reads as it did. -/
def fnExactDropAttributesSpec : ChangeSpec := { name := "fnExactDropAttributes", fn := fun _ => fun
  | [d1, d2] => { results := [.lit (.bool true)], args := [d1, d2] }
  | _ => none }
def fnExactDropAttributesRow : OpenClaim := { program := "ytemhlblajnlogaa", sum := "a53d67a75cbd1156921f362de5fb7b2fb0e74730b52226c03668c47659c788ab", func := "loop.example/g00596/laws.FnExactDropAttributes", spec := "fnExactDropAttributes", unfollowed := true, recurses := true, apart := false }
def FnExactDropAttributesSaid : Prop := fnExactDropAttributesRow.holds Try.pinned (OpenSpec.ofChange fnExactDropAttributesSpec)

/-- ITS FALSE NEIGHBOUR: 'it returns false'. Refute it at one input. -/
def fnExactDropAttributesWrong : ChangeSpec := { name := "fnExactDropAttributes", fn := fun _ => fun
  | [d1, d2] => { results := [.lit (.bool false)], args := [d1, d2] }
  | _ => none }
def FnExactDropAttributesWrongFalsely : Prop := fnExactDropAttributesRow.holds Try.pinned (OpenSpec.ofChange fnExactDropAttributesWrong)

/-- 'laws.FnExactClarify': WHATEVER THE INPUT: true; the input reads as it did. -/
def fnExactClarifySpec : ChangeSpec := { name := "fnExactClarify", fn := fun _ => fun
  | [d] => { results := [.lit (.bool true)], args := [d] }
  | _ => none }
def fnExactClarifyRow : OpenClaim := { program := "ytemhlblajnlogaa", sum := "a53d67a75cbd1156921f362de5fb7b2fb0e74730b52226c03668c47659c788ab", func := "loop.example/g00596/laws.FnExactClarify", spec := "fnExactClarify", unfollowed := true, recurses := true, apart := false }
def FnExactClarifySaid : Prop := fnExactClarifyRow.holds Try.pinned (OpenSpec.ofChange fnExactClarifySpec)

/-- ITS FALSE NEIGHBOUR: 'it returns false'. Refute it at one input. -/
def fnExactClarifyWrong : ChangeSpec := { name := "fnExactClarify", fn := fun _ => fun
  | [d] => { results := [.lit (.bool false)], args := [d] }
  | _ => none }
def FnExactClarifyWrongFalsely : Prop := fnExactClarifyRow.holds Try.pinned (OpenSpec.ofChange fnExactClarifyWrong)

/-- 'laws.FnExactReduceContext': WHATEVER THE INPUT: true; the input reads as it did. -/
def fnExactReduceContextSpec : ChangeSpec := { name := "fnExactReduceContext", fn := fun _ => fun
  | [d] => { results := [.lit (.bool true)], args := [d] }
  | _ => none }
def fnExactReduceContextRow : OpenClaim := { program := "ytemhlblajnlogaa", sum := "a53d67a75cbd1156921f362de5fb7b2fb0e74730b52226c03668c47659c788ab", func := "loop.example/g00596/laws.FnExactReduceContext", spec := "fnExactReduceContext", unfollowed := true, recurses := true, apart := false }
def FnExactReduceContextSaid : Prop := fnExactReduceContextRow.holds Try.pinned (OpenSpec.ofChange fnExactReduceContextSpec)

/-- ITS FALSE NEIGHBOUR: 'it returns false'. Refute it at one input. -/
def fnExactReduceContextWrong : ChangeSpec := { name := "fnExactReduceContext", fn := fun _ => fun
  | [d] => { results := [.lit (.bool false)], args := [d] }
  | _ => none }
def FnExactReduceContextWrongFalsely : Prop := fnExactReduceContextRow.holds Try.pinned (OpenSpec.ofChange fnExactReduceContextWrong)

/- THE SECOND FORM. 'bulk': how many values and letters a reading holds, each counted each time it is reached (what is shared counts as often as it is met; a slice's spare places count too). A statement '..UptoSaid' is the law's where the arguments, and the package variables that the reading takes, are together of bulk at most 1048576: NARROWER than '..Said'. Prove '..Said' where nothing that the law and all that it calls make is longer than what came in: it says more and counts as full. Else prove '..UptoSaid'. A law counts once. -/
mutual
def uptoBulk {H : Type} : DataW H → Nat
  | .lit (.string bytes) => bytes.length + 1
  | .lit _ => 1
  | .nil => 1
  | .ptr d => uptoBulk d + 1
  | .slice elems spare => uptoBulkAll elems + uptoBulkAll spare + 1
  | .agg parts => uptoBulkAll parts + 1
  | .iface _ d => uptoBulk d + 1
  | .map entries => uptoBulkEntries entries + 1
  | .held _ => 1
def uptoBulkAll {H : Type} : List (DataW H) → Nat
  | [] => 0
  | d :: r => uptoBulk d + uptoBulkAll r
def uptoBulkEntries {H : Type} : List (Lit × DataW H) → Nat
  | [] => 0
  | x :: r => uptoBulkEntry x + uptoBulkEntries r
def uptoBulkEntry {H : Type} : Lit × DataW H → Nat
  | (.string bytes, d) => bytes.length + uptoBulk d + 1
  | (_, d) => uptoBulk d + 1
 end
def uptoSmall : (H : Type) → List (DataW H) → Bool := fun _ ds => decide (uptoBulkAll ds ≤ 1048576)
def OpenSpec.upto (s : _root_.Go.ChangeSpec) : _root_.Go.OpenSpec := { _root_.Go.OpenSpec.ofChange s with cond := some uptoSmall }

/-- 'laws.FnExactIsReducibleObject', WHERE WHAT IT READS IS OF BULK AT MOST 1048576: true; the input reads as it did. -/
def fnExactIsReducibleObjectUptoRow : OpenClaim := { program := "ytemhlblajnlogaa", sum := "a53d67a75cbd1156921f362de5fb7b2fb0e74730b52226c03668c47659c788ab", func := "loop.example/g00596/laws.FnExactIsReducibleObject", spec := "fnExactIsReducibleObject", unfollowed := true, recurses := true, apart := false, narrowed := true }
def FnExactIsReducibleObjectUptoSaid : Prop := fnExactIsReducibleObjectUptoRow.holds Try.pinned (OpenSpec.upto fnExactIsReducibleObjectSpec)

/-- 'laws.FnExactIsIrreducibleObject', WHERE WHAT IT READS IS OF BULK AT MOST 1048576: true; the input reads as it did. -/
def fnExactIsIrreducibleObjectUptoRow : OpenClaim := { program := "ytemhlblajnlogaa", sum := "a53d67a75cbd1156921f362de5fb7b2fb0e74730b52226c03668c47659c788ab", func := "loop.example/g00596/laws.FnExactIsIrreducibleObject", spec := "fnExactIsIrreducibleObject", unfollowed := true, recurses := true, apart := false, narrowed := true }
def FnExactIsIrreducibleObjectUptoSaid : Prop := fnExactIsIrreducibleObjectUptoRow.holds Try.pinned (OpenSpec.upto fnExactIsIrreducibleObjectSpec)

/-- 'laws.FnExactDownArrows', WHERE WHAT IT READS IS OF BULK AT MOST 1048576: true; the input reads as it did. -/
def fnExactDownArrowsUptoRow : OpenClaim := { program := "ytemhlblajnlogaa", sum := "a53d67a75cbd1156921f362de5fb7b2fb0e74730b52226c03668c47659c788ab", func := "loop.example/g00596/laws.FnExactDownArrows", spec := "fnExactDownArrows", unfollowed := true, recurses := true, apart := false, narrowed := true }
def FnExactDownArrowsUptoSaid : Prop := fnExactDownArrowsUptoRow.holds Try.pinned (OpenSpec.upto fnExactDownArrowsSpec)

/-- 'laws.FnExactIsReducibleAttribute', WHERE WHAT IT READS IS OF BULK AT MOST 1048576: true; the input reads as it did. -/
def fnExactIsReducibleAttributeUptoRow : OpenClaim := { program := "ytemhlblajnlogaa", sum := "a53d67a75cbd1156921f362de5fb7b2fb0e74730b52226c03668c47659c788ab", func := "loop.example/g00596/laws.FnExactIsReducibleAttribute", spec := "fnExactIsReducibleAttribute", unfollowed := true, recurses := true, apart := false, narrowed := true }
def FnExactIsReducibleAttributeUptoSaid : Prop := fnExactIsReducibleAttributeUptoRow.holds Try.pinned (OpenSpec.upto fnExactIsReducibleAttributeSpec)

/-- 'laws.FnExactIsIrreducibleAttribute', WHERE WHAT IT READS IS OF BULK AT MOST 1048576: true; the input reads as it did. -/
def fnExactIsIrreducibleAttributeUptoRow : OpenClaim := { program := "ytemhlblajnlogaa", sum := "a53d67a75cbd1156921f362de5fb7b2fb0e74730b52226c03668c47659c788ab", func := "loop.example/g00596/laws.FnExactIsIrreducibleAttribute", spec := "fnExactIsIrreducibleAttribute", unfollowed := true, recurses := true, apart := false, narrowed := true }
def FnExactIsIrreducibleAttributeUptoSaid : Prop := fnExactIsIrreducibleAttributeUptoRow.holds Try.pinned (OpenSpec.upto fnExactIsIrreducibleAttributeSpec)

/-- 'laws.FnExactUpArrows', WHERE WHAT IT READS IS OF BULK AT MOST 1048576: true; the input reads as it did. -/
def fnExactUpArrowsUptoRow : OpenClaim := { program := "ytemhlblajnlogaa", sum := "a53d67a75cbd1156921f362de5fb7b2fb0e74730b52226c03668c47659c788ab", func := "loop.example/g00596/laws.FnExactUpArrows", spec := "fnExactUpArrows", unfollowed := true, recurses := true, apart := false, narrowed := true }
def FnExactUpArrowsUptoSaid : Prop := fnExactUpArrowsUptoRow.holds Try.pinned (OpenSpec.upto fnExactUpArrowsSpec)

/-- 'laws.FnExactHoldsIn', WHERE WHAT IT READS IS OF BULK AT MOST 1048576: true; the input reads as it did. -/
def fnExactHoldsInUptoRow : OpenClaim := { program := "ytemhlblajnlogaa", sum := "a53d67a75cbd1156921f362de5fb7b2fb0e74730b52226c03668c47659c788ab", func := "loop.example/g00596/laws.FnExactHoldsIn", spec := "fnExactHoldsIn", unfollowed := true, recurses := true, apart := false, narrowed := true }
def FnExactHoldsInUptoSaid : Prop := fnExactHoldsInUptoRow.holds Try.pinned (OpenSpec.upto fnExactHoldsInSpec)

/-- 'laws.FnExactDoubleArrows', WHERE WHAT IT READS IS OF BULK AT MOST 1048576: true; the input reads as it did. -/
def fnExactDoubleArrowsUptoRow : OpenClaim := { program := "ytemhlblajnlogaa", sum := "a53d67a75cbd1156921f362de5fb7b2fb0e74730b52226c03668c47659c788ab", func := "loop.example/g00596/laws.FnExactDoubleArrows", spec := "fnExactDoubleArrows", unfollowed := true, recurses := true, apart := false, narrowed := true }
def FnExactDoubleArrowsUptoSaid : Prop := fnExactDoubleArrowsUptoRow.holds Try.pinned (OpenSpec.upto fnExactDoubleArrowsSpec)

/-- 'laws.FnExactDropObjects', WHERE WHAT IT READS IS OF BULK AT MOST 1048576: true; the input reads as it did. -/
def fnExactDropObjectsUptoRow : OpenClaim := { program := "ytemhlblajnlogaa", sum := "a53d67a75cbd1156921f362de5fb7b2fb0e74730b52226c03668c47659c788ab", func := "loop.example/g00596/laws.FnExactDropObjects", spec := "fnExactDropObjects", unfollowed := true, recurses := true, apart := false, narrowed := true }
def FnExactDropObjectsUptoSaid : Prop := fnExactDropObjectsUptoRow.holds Try.pinned (OpenSpec.upto fnExactDropObjectsSpec)

/-- 'laws.FnExactDropAttributes', WHERE WHAT IT READS IS OF BULK AT MOST 1048576: true; the input reads as it did. -/
def fnExactDropAttributesUptoRow : OpenClaim := { program := "ytemhlblajnlogaa", sum := "a53d67a75cbd1156921f362de5fb7b2fb0e74730b52226c03668c47659c788ab", func := "loop.example/g00596/laws.FnExactDropAttributes", spec := "fnExactDropAttributes", unfollowed := true, recurses := true, apart := false, narrowed := true }
def FnExactDropAttributesUptoSaid : Prop := fnExactDropAttributesUptoRow.holds Try.pinned (OpenSpec.upto fnExactDropAttributesSpec)

/-- 'laws.FnExactClarify', WHERE WHAT IT READS IS OF BULK AT MOST 1048576: true; the input reads as it did. -/
def fnExactClarifyUptoRow : OpenClaim := { program := "ytemhlblajnlogaa", sum := "a53d67a75cbd1156921f362de5fb7b2fb0e74730b52226c03668c47659c788ab", func := "loop.example/g00596/laws.FnExactClarify", spec := "fnExactClarify", unfollowed := true, recurses := true, apart := false, narrowed := true }
def FnExactClarifyUptoSaid : Prop := fnExactClarifyUptoRow.holds Try.pinned (OpenSpec.upto fnExactClarifySpec)

/-- 'laws.FnExactReduceContext', WHERE WHAT IT READS IS OF BULK AT MOST 1048576: true; the input reads as it did. -/
def fnExactReduceContextUptoRow : OpenClaim := { program := "ytemhlblajnlogaa", sum := "a53d67a75cbd1156921f362de5fb7b2fb0e74730b52226c03668c47659c788ab", func := "loop.example/g00596/laws.FnExactReduceContext", spec := "fnExactReduceContext", unfollowed := true, recurses := true, apart := false, narrowed := true }
def FnExactReduceContextUptoSaid : Prop := fnExactReduceContextUptoRow.holds Try.pinned (OpenSpec.upto fnExactReduceContextSpec)

end Rows
end Go.Proofs.Ytemhlblajnlogaa
