/- What the law needs of the program's functions as plain functions, of the proofs that their calls answer so, and of plain laws: gathered by a program of this place (pack.py) out of its printed texts. No condition beyond what each statement says. -/
import Derived.Test.YtbflblmkdnhboaaDoorZXShortRules8
import Derived.Test.YtbflblmkdnhboaaDoorRows
import Derived.Lib.LaidTab
import Derived.LaidSub
import Derived.MakeChecks
namespace Go.Proofs.YtbflblmkdnhboaaDoor.Pr
open Go.RowKit Go.Proofs.YtbflblmkdnhboaaDoorW.PrintWords
set_option linter.unusedVariables false
/-- The list that a row gives, cut down to the one table. -/
def tabLaid : List (String × DataW Unit) := [("math/bits.deBruijn64tab", Lib.tabData .u8 (Lib.deBruijn64tab.map fun n : Nat => (n : Int)))]
theorem tabLaid_at : ∀ j, j < 64 → (Lib.deBruijn64tab.map fun n : Nat => (n : Int)).getD j 0 = ((Lib.deBruijn64tab.getD j 0 : Nat) : Int) := by decide
theorem Tab64.of_laid {W : World} (h : laidMet Tryd.prog tabLaid W) : Tab64 W := by
  have ht := Lib.tabIs_of_head (g := 1) (t := 108) (e := 5) (n := 64) (by kernel_rfl) (by kernel_rfl) Tryd.underlying108 Tryd.underlying5 (by kernel_rfl) (by kernel_rfl) h
  intro j hj
  have := ht.cell (g := 1) (by kernel_rfl) j (by rw [List.length_map]; exact hj)
  rw [tabLaid_at j hj] at this
  exact this
end Go.Proofs.YtbflblmkdnhboaaDoor.Pr
