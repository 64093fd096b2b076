/-
  DERIVED. GIVEN WITH THE SEED: THE CARDS: each row of YtbflblmkdnhboaaDoorRows.lean that lists a variable, with what it lists TIED to the program's text (the seventh form; the later family's looks); each row that meets fmt, with fmt's text TOLD by the authors' own Lean function (tested against real Go, not proved from fmt's source: count such statements apart). THE CARD IS WHAT COUNTS. Prove the row's statement (the work); the ties are given (YtbflblmkdnhboaaDoorTie.lean); close each card by the builder's one call (the guide's Derived/Test/ToyasCard.lean, 'card_holds'). Laid BY PROGRAM, IN A SANDBOX (cutbox-door.mjs). By AI agents, Wed Nov 11 2026. No macro, syntax, notation, axiom, sorry.
-/
import Derived.Test.YtbflblmkdnhboaaDoorRows
import GoSem.ClaimSeven
namespace Go.Proofs.YtbflblmkdnhboaaDoor
namespace Rows

/-- THE TIED CARD OF 'laws.FnExactCountRules'. -/
def fnExactCountRulesCard : Claim7 := { stood := { row := fnExactCountRulesRow, standIns := [], harness := (true, "c3bb4d5e0940e568aaa5474a2480c8847098b9eb873382350d7523772883e03e"), looks := false }, kinds := [], alts := [], laidByText := true, laidKinds := [.data, .data], laidTests := true, laidLooks := .later }
def FnExactCountRulesCardSaid : Prop := Claim7.holds Tryd.pinned (.plain (OpenSpec.ofChange fnExactCountRulesSpec)) fnExactCountRulesCard

/-- THE TIED CARD OF 'laws.FnExactModelsOf'. -/
def fnExactModelsOfCard : Claim7 := { stood := { row := fnExactModelsOfRow, standIns := [], harness := (true, "c3bb4d5e0940e568aaa5474a2480c8847098b9eb873382350d7523772883e03e"), looks := false }, kinds := [], alts := [], laidByText := true, laidKinds := [.data, .data], laidTests := true, laidLooks := .later }
def FnExactModelsOfCardSaid : Prop := Claim7.holds Tryd.pinned (.plain (OpenSpec.ofChange fnExactModelsOfSpec)) fnExactModelsOfCard

/-- THE TIED CARD OF 'laws.FnExactProperPremises'. -/
def fnExactProperPremisesCard : Claim7 := { stood := { row := fnExactProperPremisesRow, standIns := [], harness := (true, "c3bb4d5e0940e568aaa5474a2480c8847098b9eb873382350d7523772883e03e"), looks := false }, kinds := [], alts := [], laidByText := true, laidKinds := [.data, .data], laidTests := true, laidLooks := .later }
def FnExactProperPremisesCardSaid : Prop := Claim7.holds Tryd.pinned (.plain (OpenSpec.ofChange fnExactProperPremisesSpec)) fnExactProperPremisesCard

/-- THE TIED CARD OF 'laws.FnExactIrreducibleModels'. -/
def fnExactIrreducibleModelsCard : Claim7 := { stood := { row := fnExactIrreducibleModelsRow, standIns := [], harness := (true, "c3bb4d5e0940e568aaa5474a2480c8847098b9eb873382350d7523772883e03e"), looks := false }, kinds := [], alts := [], laidByText := true, laidKinds := [.data, .data], laidTests := true, laidLooks := .later }
def FnExactIrreducibleModelsCardSaid : Prop := Claim7.holds Tryd.pinned (.plain (OpenSpec.ofChange fnExactIrreducibleModelsSpec)) fnExactIrreducibleModelsCard

/-- THE TIED CARD OF 'laws.FnExactContextOfRules'. -/
def fnExactContextOfRulesCard : Claim7 := { stood := { row := fnExactContextOfRulesRow, standIns := [], harness := (true, "c3bb4d5e0940e568aaa5474a2480c8847098b9eb873382350d7523772883e03e"), looks := false }, kinds := [], alts := [], laidByText := true, laidKinds := [.data, .data], laidTests := true, laidLooks := .later }
def FnExactContextOfRulesCardSaid : Prop := Claim7.holds Tryd.pinned (.plain (OpenSpec.ofChange fnExactContextOfRulesSpec)) fnExactContextOfRulesCard

/-- THE TIED CARD OF 'laws.FnExactDirectBase'. -/
def fnExactDirectBaseCard : Claim7 := { stood := { row := fnExactDirectBaseRow, standIns := [], harness := (true, "c3bb4d5e0940e568aaa5474a2480c8847098b9eb873382350d7523772883e03e"), looks := false }, kinds := [], alts := [], laidByText := true, laidKinds := [.data, .data], laidTests := true, laidLooks := .later }
def FnExactDirectBaseCardSaid : Prop := Claim7.holds Tryd.pinned (.plain (OpenSpec.ofChange fnExactDirectBaseSpec)) fnExactDirectBaseCard

/-- THE TIED CARD OF 'laws.FnExactShortRules'. -/
def fnExactShortRulesCard : Claim7 := { stood := { row := fnExactShortRulesRow, standIns := [], harness := (true, "c3bb4d5e0940e568aaa5474a2480c8847098b9eb873382350d7523772883e03e"), looks := false }, kinds := [], alts := [], laidByText := true, laidKinds := [.data, .data], laidTests := true, laidLooks := .later }
def FnExactShortRulesCardSaid : Prop := Claim7.holds Tryd.pinned (.plain (OpenSpec.ofChange fnExactShortRulesSpec)) fnExactShortRulesCard

/-- THE TIED CARD OF 'laws.FnExactPseudoIntents'. -/
def fnExactPseudoIntentsCard : Claim7 := { stood := { row := fnExactPseudoIntentsRow, standIns := [], harness := (true, "c3bb4d5e0940e568aaa5474a2480c8847098b9eb873382350d7523772883e03e"), looks := false }, kinds := [], alts := [], laidByText := true, laidKinds := [.data, .data], laidTests := true, laidLooks := .later }
def FnExactPseudoIntentsCardSaid : Prop := Claim7.holds Tryd.pinned (.plain (OpenSpec.ofChange fnExactPseudoIntentsSpec)) fnExactPseudoIntentsCard

/-- THE TIED CARD OF 'laws.FnExactStemBase'. -/
def fnExactStemBaseCard : Claim7 := { stood := { row := fnExactStemBaseRow, standIns := [], harness := (true, "c3bb4d5e0940e568aaa5474a2480c8847098b9eb873382350d7523772883e03e"), looks := false }, kinds := [], alts := [], laidByText := true, laidKinds := [.data, .data], laidTests := true, laidLooks := .later }
def FnExactStemBaseCardSaid : Prop := Claim7.holds Tryd.pinned (.plain (OpenSpec.ofChange fnExactStemBaseSpec)) fnExactStemBaseCard

/-- THE SECOND FORM's CARD OF 'laws.FnExactCountRules'. -/
def fnExactCountRulesUptoCard : Claim7 := { stood := { row := fnExactCountRulesUptoRow, standIns := [], harness := (true, "c3bb4d5e0940e568aaa5474a2480c8847098b9eb873382350d7523772883e03e"), looks := false }, kinds := [], alts := [], laidByText := true, laidKinds := [.data, .data], laidTests := true, laidLooks := .later }
def FnExactCountRulesUptoCardSaid : Prop := Claim7.holds Tryd.pinned (.plain (OpenSpec.upto fnExactCountRulesSpec)) fnExactCountRulesUptoCard

/-- THE SECOND FORM's CARD OF 'laws.FnExactModelsOf'. -/
def fnExactModelsOfUptoCard : Claim7 := { stood := { row := fnExactModelsOfUptoRow, standIns := [], harness := (true, "c3bb4d5e0940e568aaa5474a2480c8847098b9eb873382350d7523772883e03e"), looks := false }, kinds := [], alts := [], laidByText := true, laidKinds := [.data, .data], laidTests := true, laidLooks := .later }
def FnExactModelsOfUptoCardSaid : Prop := Claim7.holds Tryd.pinned (.plain (OpenSpec.upto fnExactModelsOfSpec)) fnExactModelsOfUptoCard

/-- THE SECOND FORM's CARD OF 'laws.FnExactProperPremises'. -/
def fnExactProperPremisesUptoCard : Claim7 := { stood := { row := fnExactProperPremisesUptoRow, standIns := [], harness := (true, "c3bb4d5e0940e568aaa5474a2480c8847098b9eb873382350d7523772883e03e"), looks := false }, kinds := [], alts := [], laidByText := true, laidKinds := [.data, .data], laidTests := true, laidLooks := .later }
def FnExactProperPremisesUptoCardSaid : Prop := Claim7.holds Tryd.pinned (.plain (OpenSpec.upto fnExactProperPremisesSpec)) fnExactProperPremisesUptoCard

/-- THE SECOND FORM's CARD OF 'laws.FnExactIrreducibleModels'. -/
def fnExactIrreducibleModelsUptoCard : Claim7 := { stood := { row := fnExactIrreducibleModelsUptoRow, standIns := [], harness := (true, "c3bb4d5e0940e568aaa5474a2480c8847098b9eb873382350d7523772883e03e"), looks := false }, kinds := [], alts := [], laidByText := true, laidKinds := [.data, .data], laidTests := true, laidLooks := .later }
def FnExactIrreducibleModelsUptoCardSaid : Prop := Claim7.holds Tryd.pinned (.plain (OpenSpec.upto fnExactIrreducibleModelsSpec)) fnExactIrreducibleModelsUptoCard

/-- THE SECOND FORM's CARD OF 'laws.FnExactContextOfRules'. -/
def fnExactContextOfRulesUptoCard : Claim7 := { stood := { row := fnExactContextOfRulesUptoRow, standIns := [], harness := (true, "c3bb4d5e0940e568aaa5474a2480c8847098b9eb873382350d7523772883e03e"), looks := false }, kinds := [], alts := [], laidByText := true, laidKinds := [.data, .data], laidTests := true, laidLooks := .later }
def FnExactContextOfRulesUptoCardSaid : Prop := Claim7.holds Tryd.pinned (.plain (OpenSpec.upto fnExactContextOfRulesSpec)) fnExactContextOfRulesUptoCard

/-- THE SECOND FORM's CARD OF 'laws.FnExactDirectBase'. -/
def fnExactDirectBaseUptoCard : Claim7 := { stood := { row := fnExactDirectBaseUptoRow, standIns := [], harness := (true, "c3bb4d5e0940e568aaa5474a2480c8847098b9eb873382350d7523772883e03e"), looks := false }, kinds := [], alts := [], laidByText := true, laidKinds := [.data, .data], laidTests := true, laidLooks := .later }
def FnExactDirectBaseUptoCardSaid : Prop := Claim7.holds Tryd.pinned (.plain (OpenSpec.upto fnExactDirectBaseSpec)) fnExactDirectBaseUptoCard

/-- THE SECOND FORM's CARD OF 'laws.FnExactShortRules'. -/
def fnExactShortRulesUptoCard : Claim7 := { stood := { row := fnExactShortRulesUptoRow, standIns := [], harness := (true, "c3bb4d5e0940e568aaa5474a2480c8847098b9eb873382350d7523772883e03e"), looks := false }, kinds := [], alts := [], laidByText := true, laidKinds := [.data, .data], laidTests := true, laidLooks := .later }
def FnExactShortRulesUptoCardSaid : Prop := Claim7.holds Tryd.pinned (.plain (OpenSpec.upto fnExactShortRulesSpec)) fnExactShortRulesUptoCard

/-- THE SECOND FORM's CARD OF 'laws.FnExactPseudoIntents'. -/
def fnExactPseudoIntentsUptoCard : Claim7 := { stood := { row := fnExactPseudoIntentsUptoRow, standIns := [], harness := (true, "c3bb4d5e0940e568aaa5474a2480c8847098b9eb873382350d7523772883e03e"), looks := false }, kinds := [], alts := [], laidByText := true, laidKinds := [.data, .data], laidTests := true, laidLooks := .later }
def FnExactPseudoIntentsUptoCardSaid : Prop := Claim7.holds Tryd.pinned (.plain (OpenSpec.upto fnExactPseudoIntentsSpec)) fnExactPseudoIntentsUptoCard

/-- THE SECOND FORM's CARD OF 'laws.FnExactStemBase'. -/
def fnExactStemBaseUptoCard : Claim7 := { stood := { row := fnExactStemBaseUptoRow, standIns := [], harness := (true, "c3bb4d5e0940e568aaa5474a2480c8847098b9eb873382350d7523772883e03e"), looks := false }, kinds := [], alts := [], laidByText := true, laidKinds := [.data, .data], laidTests := true, laidLooks := .later }
def FnExactStemBaseUptoCardSaid : Prop := Claim7.holds Tryd.pinned (.plain (OpenSpec.upto fnExactStemBaseSpec)) fnExactStemBaseUptoCard
end Rows
end Go.Proofs.YtbflblmkdnhboaaDoor
