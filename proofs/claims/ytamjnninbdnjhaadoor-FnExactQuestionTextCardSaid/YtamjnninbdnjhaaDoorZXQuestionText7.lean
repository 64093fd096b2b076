/- What the law needs of the program's functions as plain functions, of the proofs that their calls answer so, and of plain laws: gathered by a program of this place (pack.py) out of its printed texts. No condition beyond what each statement says. -/
import Derived.Test.YtamjnninbdnjhaaDoorZXQuestionText6
import Derived.Test.YtamjnninbdnjhaaDoorRows
import Derived.Lib.LaidTab
import Derived.LaidSub
import Derived.MakeChecks
namespace Go.Proofs.YtamjnninbdnjhaaDoor.Pr
open Go.RowKit Go.Proofs.YtamjnninbdnjhaaDoorW.PrintWords
set_option linter.unusedVariables false
/-- The list that a row gives, cut down to the one table. -/
def tab10Laid : List (String × DataW Unit) := [("internal/strconv.uint64pow10", Lib.tabData .u64 Lib.pow10Tab)]
theorem Tab10.of_laid {W : World} (h : laidMet Tryd.prog tab10Laid W) : Tab10 W :=
  Lib.tabIs_of_head (g := 3) (t := 98) (e := 84) (n := 20) (by kernel_rfl) (by kernel_rfl) Tryd.underlying98 Tryd.underlying84 (by kernel_rfl) (by kernel_rfl) h
end Go.Proofs.YtamjnninbdnjhaaDoor.Pr
