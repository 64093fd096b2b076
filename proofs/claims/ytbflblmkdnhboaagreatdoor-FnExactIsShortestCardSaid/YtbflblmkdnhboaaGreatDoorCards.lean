/-
  DERIVED. GIVEN WITH THE SEED: THE CARDS: each row of YtbflblmkdnhboaaGreatDoorRows.lean that lists a variable, with what it lists TIED to the program's text (the seventh form; the later family's looks); each row that meets fmt, with fmt's text TOLD by the authors' own Lean function (tested against real Go, not proved from fmt's source: count such statements apart). THE CARD IS WHAT COUNTS. Prove the row's statement (the work); the ties are given (YtbflblmkdnhboaaGreatDoorTie.lean); close each card by the builder's one call (the guide's Derived/Test/ToyasCard.lean, 'card_holds'). Laid BY PROGRAM, IN A SANDBOX (cutbox-door.mjs). By AI agents, Wed Nov 11 2026. No macro, syntax, notation, axiom, sorry.
-/
import Derived.Test.YtbflblmkdnhboaaGreatDoorRows
import GoSem.ClaimSeven
namespace Go.Proofs.YtbflblmkdnhboaaGreatDoor
namespace Rows

/-- THE TIED CARD OF 'laws.FnExactIsBase'. -/
def fnExactIsBaseCard : Claim7 := { stood := { row := fnExactIsBaseRow, standIns := [], harness := (true, "5b04bf005ffcc67ee6f9470448126c659214c0c5a5117fdc96be4580dfb10ffb"), looks := false }, kinds := [], alts := [], laidByText := true, laidKinds := [.data, .data], laidTests := true, laidLooks := .later }
def FnExactIsBaseCardSaid : Prop := Claim7.holds Tryz.pinned (.plain (OpenSpec.ofChange fnExactIsBaseSpec)) fnExactIsBaseCard

/-- THE TIED CARD OF 'laws.FnExactIsShortest'. -/
def fnExactIsShortestCard : Claim7 := { stood := { row := fnExactIsShortestRow, standIns := [], harness := (true, "5b04bf005ffcc67ee6f9470448126c659214c0c5a5117fdc96be4580dfb10ffb"), looks := false }, kinds := [], alts := [], laidByText := true, laidKinds := [.data, .data], laidTests := true, laidLooks := .later }
def FnExactIsShortestCardSaid : Prop := Claim7.holds Tryz.pinned (.plain (OpenSpec.ofChange fnExactIsShortestSpec)) fnExactIsShortestCard

/-- THE SECOND FORM's CARD OF 'laws.FnExactIsBase'. -/
def fnExactIsBaseUptoCard : Claim7 := { stood := { row := fnExactIsBaseUptoRow, standIns := [], harness := (true, "5b04bf005ffcc67ee6f9470448126c659214c0c5a5117fdc96be4580dfb10ffb"), looks := false }, kinds := [], alts := [], laidByText := true, laidKinds := [.data, .data], laidTests := true, laidLooks := .later }
def FnExactIsBaseUptoCardSaid : Prop := Claim7.holds Tryz.pinned (.plain (OpenSpec.upto fnExactIsBaseSpec)) fnExactIsBaseUptoCard

/-- THE SECOND FORM's CARD OF 'laws.FnExactIsShortest'. -/
def fnExactIsShortestUptoCard : Claim7 := { stood := { row := fnExactIsShortestUptoRow, standIns := [], harness := (true, "5b04bf005ffcc67ee6f9470448126c659214c0c5a5117fdc96be4580dfb10ffb"), looks := false }, kinds := [], alts := [], laidByText := true, laidKinds := [.data, .data], laidTests := true, laidLooks := .later }
def FnExactIsShortestUptoCardSaid : Prop := Claim7.holds Tryz.pinned (.plain (OpenSpec.upto fnExactIsShortestSpec)) fnExactIsShortestUptoCard
end Rows
end Go.Proofs.YtbflblmkdnhboaaGreatDoor
