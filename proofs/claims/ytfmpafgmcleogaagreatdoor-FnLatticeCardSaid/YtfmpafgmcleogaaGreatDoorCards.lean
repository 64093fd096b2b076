/-
  DERIVED. GIVEN WITH THE SEED: THE CARDS: each row of YtfmpafgmcleogaaGreatDoorRows.lean that lists a variable, with what it lists TIED to the program's text (the seventh form; the later family's looks); each row that meets fmt, with fmt's text TOLD by the authors' own Lean function (tested against real Go, not proved from fmt's source: count such statements apart). THE CARD IS WHAT COUNTS. Prove the row's statement (the work); the ties are given (YtfmpafgmcleogaaGreatDoorTie.lean); close each card by the builder's one call (the guide's Derived/Test/ToyasCard.lean, 'card_holds'). Laid BY PROGRAM, IN A SANDBOX (cutbox-door.mjs). By AI agents, Wed Nov 11 2026. No macro, syntax, notation, axiom, sorry.
-/
import Derived.Test.YtfmpafgmcleogaaGreatDoorRows
import GoSem.ClaimSeven
namespace Go.Proofs.YtfmpafgmcleogaaGreatDoor
namespace Rows

/-- THE TIED CARD OF 'laws.FnLattice'. -/
def fnLatticeCard : Claim7 := { stood := { row := fnLatticeRow, standIns := [], harness := (true, "e6aba2c088f3f430fe9bbdc0988538d8e7d19bb2295e9dc605b2e1739bde1512"), looks := false }, kinds := [], alts := [], laidByText := true, laidKinds := [.data, .data], laidTests := true, laidLooks := .later }
def FnLatticeCardSaid : Prop := Claim7.holds Tryz.pinned (.plain (OpenSpec.ofChange fnLatticeSpec)) fnLatticeCard

/-- THE SECOND FORM's CARD OF 'laws.FnLattice'. -/
def fnLatticeUptoCard : Claim7 := { stood := { row := fnLatticeUptoRow, standIns := [], harness := (true, "e6aba2c088f3f430fe9bbdc0988538d8e7d19bb2295e9dc605b2e1739bde1512"), looks := false }, kinds := [], alts := [], laidByText := true, laidKinds := [.data, .data], laidTests := true, laidLooks := .later }
def FnLatticeUptoCardSaid : Prop := Claim7.holds Tryz.pinned (.plain (OpenSpec.upto fnLatticeSpec)) fnLatticeUptoCard
end Rows
end Go.Proofs.YtfmpafgmcleogaaGreatDoor
