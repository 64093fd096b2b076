/-
  DERIVED. GIVEN WITH THE SEED: THE CARDS: each row of YtamjnninbdnjhaaDoorRows.lean that lists a variable, with what it lists TIED to the program's text (the seventh form; the later family's looks); each row that meets fmt, with fmt's text TOLD by the authors' own Lean function (tested against real Go, not proved from fmt's source: count such statements apart). THE CARD IS WHAT COUNTS. Prove the row's statement (the work); the ties are given (YtamjnninbdnjhaaDoorTie.lean); close each card by the builder's one call (the guide's Derived/Test/ToyasCard.lean, 'card_holds'). Laid BY PROGRAM, IN A SANDBOX (cutbox-door.mjs). By AI agents, Wed Nov 11 2026. No macro, syntax, notation, axiom, sorry.
-/
import Derived.Test.YtamjnninbdnjhaaDoorRows
import GoSem.ClaimSeven
namespace Go.Proofs.YtamjnninbdnjhaaDoor
namespace Rows

/-- THE TIED CARD OF 'laws.FnExactQuestionText'. -/
def fnExactQuestionTextCard : Claim7 := { stood := { row := fnExactQuestionTextRow, standIns := [], harness := (true, "856d2610585848deb1a1449577682b0d61fe1513580486dbb64e0ef54132cd47"), looks := false }, kinds := [], alts := [], laidByText := true, laidKinds := [.data, .data, .data], laidTests := true, laidLooks := .later }
def FnExactQuestionTextCardSaid : Prop := Claim7.holds Tryd.pinned (.plain (OpenSpec.ofChange fnExactQuestionTextSpec)) fnExactQuestionTextCard

/-- THE TIED CARD OF 'laws.FnExactParseRules'. -/
def fnExactParseRulesCard : Claim7 := { stood := { row := fnExactParseRulesRow, standIns := [], harness := (true, "856d2610585848deb1a1449577682b0d61fe1513580486dbb64e0ef54132cd47"), looks := false }, kinds := [], alts := [], laidByText := true, laidKinds := [.data, .pinned], laidTests := true, laidLooks := .later }
def FnExactParseRulesCardSaid : Prop := Claim7.holds Tryd.pinned (.plain (OpenSpec.ofChange fnExactParseRulesSpec)) fnExactParseRulesCard

/-- THE TIED CARD OF 'laws.FnExactIsClosureFamily'. -/
def fnExactIsClosureFamilyCard : Claim7 := { stood := { row := fnExactIsClosureFamilyRow, standIns := [], harness := (true, "856d2610585848deb1a1449577682b0d61fe1513580486dbb64e0ef54132cd47"), looks := false }, kinds := [], alts := [], laidByText := true, laidKinds := [.data, .data], laidTests := true, laidLooks := .later }
def FnExactIsClosureFamilyCardSaid : Prop := Claim7.holds Tryd.pinned (.plain (OpenSpec.ofChange fnExactIsClosureFamilySpec)) fnExactIsClosureFamilyCard

/-- THE TIED CARD OF 'laws.FnExactContextOfFamily'. -/
def fnExactContextOfFamilyCard : Claim7 := { stood := { row := fnExactContextOfFamilyRow, standIns := [], harness := (true, "856d2610585848deb1a1449577682b0d61fe1513580486dbb64e0ef54132cd47"), looks := false }, kinds := [], alts := [], laidByText := true, laidKinds := [.data, .data], laidTests := true, laidLooks := .later }
def FnExactContextOfFamilyCardSaid : Prop := Claim7.holds Tryd.pinned (.plain (OpenSpec.ofChange fnExactContextOfFamilySpec)) fnExactContextOfFamilyCard

/-- THE SECOND FORM's CARD OF 'laws.FnExactQuestionText'. -/
def fnExactQuestionTextUptoCard : Claim7 := { stood := { row := fnExactQuestionTextUptoRow, standIns := [], harness := (true, "856d2610585848deb1a1449577682b0d61fe1513580486dbb64e0ef54132cd47"), looks := false }, kinds := [], alts := [], laidByText := true, laidKinds := [.data, .data, .data], laidTests := true, laidLooks := .later }
def FnExactQuestionTextUptoCardSaid : Prop := Claim7.holds Tryd.pinned (.plain (OpenSpec.upto fnExactQuestionTextSpec)) fnExactQuestionTextUptoCard

/-- THE SECOND FORM's CARD OF 'laws.FnExactParseRules'. -/
def fnExactParseRulesUptoCard : Claim7 := { stood := { row := fnExactParseRulesUptoRow, standIns := [], harness := (true, "856d2610585848deb1a1449577682b0d61fe1513580486dbb64e0ef54132cd47"), looks := false }, kinds := [], alts := [], laidByText := true, laidKinds := [.data, .pinned], laidTests := true, laidLooks := .later }
def FnExactParseRulesUptoCardSaid : Prop := Claim7.holds Tryd.pinned (.plain (OpenSpec.upto fnExactParseRulesSpec)) fnExactParseRulesUptoCard

/-- THE SECOND FORM's CARD OF 'laws.FnExactIsClosureFamily'. -/
def fnExactIsClosureFamilyUptoCard : Claim7 := { stood := { row := fnExactIsClosureFamilyUptoRow, standIns := [], harness := (true, "856d2610585848deb1a1449577682b0d61fe1513580486dbb64e0ef54132cd47"), looks := false }, kinds := [], alts := [], laidByText := true, laidKinds := [.data, .data], laidTests := true, laidLooks := .later }
def FnExactIsClosureFamilyUptoCardSaid : Prop := Claim7.holds Tryd.pinned (.plain (OpenSpec.upto fnExactIsClosureFamilySpec)) fnExactIsClosureFamilyUptoCard

/-- THE SECOND FORM's CARD OF 'laws.FnExactContextOfFamily'. -/
def fnExactContextOfFamilyUptoCard : Claim7 := { stood := { row := fnExactContextOfFamilyUptoRow, standIns := [], harness := (true, "856d2610585848deb1a1449577682b0d61fe1513580486dbb64e0ef54132cd47"), looks := false }, kinds := [], alts := [], laidByText := true, laidKinds := [.data, .data], laidTests := true, laidLooks := .later }
def FnExactContextOfFamilyUptoCardSaid : Prop := Claim7.holds Tryd.pinned (.plain (OpenSpec.upto fnExactContextOfFamilySpec)) fnExactContextOfFamilyUptoCard
end Rows
end Go.Proofs.YtamjnninbdnjhaaDoor
