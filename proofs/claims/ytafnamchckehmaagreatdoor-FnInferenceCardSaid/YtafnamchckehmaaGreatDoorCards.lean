/-
  DERIVED. GIVEN WITH THE SEED: THE CARDS: each row of YtafnamchckehmaaGreatDoorRows.lean that lists a variable, with what it lists TIED to the program's text (the seventh form; the later family's looks); each row that meets fmt, with fmt's text TOLD by the authors' own Lean function (tested against real Go, not proved from fmt's source: count such statements apart). THE CARD IS WHAT COUNTS. Prove the row's statement (the work); the ties are given (YtafnamchckehmaaGreatDoorTie.lean); close each card by the builder's one call (the guide's Derived/Test/ToyasCard.lean, 'card_holds'). Laid BY PROGRAM, IN A SANDBOX (cutbox-door.mjs). By AI agents, Wed Nov 11 2026. No macro, syntax, notation, axiom, sorry.
-/
import Derived.Test.YtafnamchckehmaaGreatDoorRows
import GoSem.ClaimSeven
namespace Go.Proofs.YtafnamchckehmaaGreatDoor
namespace Rows

/-- THE TIED CARD OF 'laws.FnModels'. -/
def fnModelsCard : Claim7 := { stood := { row := fnModelsRow, standIns := [], harness := (true, "c4b3bbd0817b55827d92ac6962a5b6b80c91570160ccc73a33dea5040980ab14"), looks := false }, kinds := [], alts := [], laidByText := true, laidKinds := [.data, .data], laidTests := true, laidLooks := .later }
def FnModelsCardSaid : Prop := Claim7.holds Tryz.pinned (.plain (OpenSpec.ofChange fnModelsSpec)) fnModelsCard

/-- THE TIED CARD OF 'laws.FnInference'. -/
def fnInferenceCard : Claim7 := { stood := { row := fnInferenceRow, standIns := [], harness := (true, "c4b3bbd0817b55827d92ac6962a5b6b80c91570160ccc73a33dea5040980ab14"), looks := false }, kinds := [], alts := [], laidByText := true, laidKinds := [.data, .data], laidTests := true, laidLooks := .later }
def FnInferenceCardSaid : Prop := Claim7.holds Tryz.pinned (.plain (OpenSpec.ofChange fnInferenceSpec)) fnInferenceCard

/-- THE TIED CARD OF 'laws.FnStem'. -/
def fnStemCard : Claim7 := { stood := { row := fnStemRow, standIns := [], harness := (true, "c4b3bbd0817b55827d92ac6962a5b6b80c91570160ccc73a33dea5040980ab14"), looks := false }, kinds := [], alts := [], laidByText := true, laidKinds := [.data, .data], laidTests := true, laidLooks := .later }
def FnStemCardSaid : Prop := Claim7.holds Tryz.pinned (.plain (OpenSpec.ofChange fnStemSpec)) fnStemCard

/-- THE TIED CARD OF 'laws.FnRules'. -/
def fnRulesCard : Claim7 := { stood := { row := fnRulesRow, standIns := [], harness := (true, "c4b3bbd0817b55827d92ac6962a5b6b80c91570160ccc73a33dea5040980ab14"), looks := false }, kinds := [], alts := [], laidByText := true, laidKinds := [.data, .pinned], laidTests := true, laidLooks := .later }
def FnRulesCardSaid : Prop := Claim7.holds Tryz.pinned (.plain (OpenSpec.ofChange fnRulesSpec)) fnRulesCard

/-- THE TIED CARD OF 'laws.FnLattice'. -/
def fnLatticeCard : Claim7 := { stood := { row := fnLatticeRow, standIns := [], harness := (true, "c4b3bbd0817b55827d92ac6962a5b6b80c91570160ccc73a33dea5040980ab14"), looks := false }, kinds := [], alts := [], laidByText := true, laidKinds := [.data, .data], laidTests := true, laidLooks := .later }
def FnLatticeCardSaid : Prop := Claim7.holds Tryz.pinned (.plain (OpenSpec.ofChange fnLatticeSpec)) fnLatticeCard

/-- THE TIED CARD OF 'laws.FnDirect'. -/
def fnDirectCard : Claim7 := { stood := { row := fnDirectRow, standIns := [], harness := (true, "c4b3bbd0817b55827d92ac6962a5b6b80c91570160ccc73a33dea5040980ab14"), looks := false }, kinds := [], alts := [], laidByText := true, laidKinds := [.data, .data], laidTests := true, laidLooks := .later }
def FnDirectCardSaid : Prop := Claim7.holds Tryz.pinned (.plain (OpenSpec.ofChange fnDirectSpec)) fnDirectCard

/-- THE SECOND FORM's CARD OF 'laws.FnModels'. -/
def fnModelsUptoCard : Claim7 := { stood := { row := fnModelsUptoRow, standIns := [], harness := (true, "c4b3bbd0817b55827d92ac6962a5b6b80c91570160ccc73a33dea5040980ab14"), looks := false }, kinds := [], alts := [], laidByText := true, laidKinds := [.data, .data], laidTests := true, laidLooks := .later }
def FnModelsUptoCardSaid : Prop := Claim7.holds Tryz.pinned (.plain (OpenSpec.upto fnModelsSpec)) fnModelsUptoCard

/-- THE SECOND FORM's CARD OF 'laws.FnInference'. -/
def fnInferenceUptoCard : Claim7 := { stood := { row := fnInferenceUptoRow, standIns := [], harness := (true, "c4b3bbd0817b55827d92ac6962a5b6b80c91570160ccc73a33dea5040980ab14"), looks := false }, kinds := [], alts := [], laidByText := true, laidKinds := [.data, .data], laidTests := true, laidLooks := .later }
def FnInferenceUptoCardSaid : Prop := Claim7.holds Tryz.pinned (.plain (OpenSpec.upto fnInferenceSpec)) fnInferenceUptoCard

/-- THE SECOND FORM's CARD OF 'laws.FnStem'. -/
def fnStemUptoCard : Claim7 := { stood := { row := fnStemUptoRow, standIns := [], harness := (true, "c4b3bbd0817b55827d92ac6962a5b6b80c91570160ccc73a33dea5040980ab14"), looks := false }, kinds := [], alts := [], laidByText := true, laidKinds := [.data, .data], laidTests := true, laidLooks := .later }
def FnStemUptoCardSaid : Prop := Claim7.holds Tryz.pinned (.plain (OpenSpec.upto fnStemSpec)) fnStemUptoCard

/-- THE SECOND FORM's CARD OF 'laws.FnRules'. -/
def fnRulesUptoCard : Claim7 := { stood := { row := fnRulesUptoRow, standIns := [], harness := (true, "c4b3bbd0817b55827d92ac6962a5b6b80c91570160ccc73a33dea5040980ab14"), looks := false }, kinds := [], alts := [], laidByText := true, laidKinds := [.data, .pinned], laidTests := true, laidLooks := .later }
def FnRulesUptoCardSaid : Prop := Claim7.holds Tryz.pinned (.plain (OpenSpec.upto fnRulesSpec)) fnRulesUptoCard

/-- THE SECOND FORM's CARD OF 'laws.FnLattice'. -/
def fnLatticeUptoCard : Claim7 := { stood := { row := fnLatticeUptoRow, standIns := [], harness := (true, "c4b3bbd0817b55827d92ac6962a5b6b80c91570160ccc73a33dea5040980ab14"), looks := false }, kinds := [], alts := [], laidByText := true, laidKinds := [.data, .data], laidTests := true, laidLooks := .later }
def FnLatticeUptoCardSaid : Prop := Claim7.holds Tryz.pinned (.plain (OpenSpec.upto fnLatticeSpec)) fnLatticeUptoCard

/-- THE SECOND FORM's CARD OF 'laws.FnDirect'. -/
def fnDirectUptoCard : Claim7 := { stood := { row := fnDirectUptoRow, standIns := [], harness := (true, "c4b3bbd0817b55827d92ac6962a5b6b80c91570160ccc73a33dea5040980ab14"), looks := false }, kinds := [], alts := [], laidByText := true, laidKinds := [.data, .data], laidTests := true, laidLooks := .later }
def FnDirectUptoCardSaid : Prop := Claim7.holds Tryz.pinned (.plain (OpenSpec.upto fnDirectSpec)) fnDirectUptoCard
end Rows
end Go.Proofs.YtafnamchckehmaaGreatDoor
