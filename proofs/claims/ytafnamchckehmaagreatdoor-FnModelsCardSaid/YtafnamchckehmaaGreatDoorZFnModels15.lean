/- What the law needs of the program's functions as plain functions, of the proofs that their calls answer so, and of plain laws: gathered by a program of this place (pack.py) out of its printed texts. No condition beyond what each statement says. -/
import Derived.Test.YtafnamchckehmaaGreatDoorZFnModels12
import Derived.Test.YtafnamchckehmaaGreatDoorZFnModels14
import Derived.Test.YtafnamchckehmaaGreatDoorZFnModels9
import Derived.Test.YtafnamchckehmaaGreatDoorZFnModels2
import Derived.Test.YtafnamchckehmaaGreatDoorZFnModels3
import Derived.Test.YtafnamchckehmaaGreatDoorZFnModels5
import Derived.Test.YtafnamchckehmaaGreatDoorZFnModels10
import Derived.Test.YtafnamchckehmaaGreatDoorZFnModels6
namespace Go.Proofs.YtafnamchckehmaaGreatDoor.Pu
theorem small_any {l : List IR} (h : l.all anyR = true) : small (toR l) := fun r hr => by
  unfold toR at hr
  obtain ⟨x, hx, rfl⟩ := List.mem_map.1 hr
  have := List.all_eq_true.1 h x hx
  unfold anyR isAny at this
  rw [Bool.and_eq_true, decide_eq_true_iff, decide_eq_true_iff] at this
  unfold toP
  exact ⟨by show x.f0.toNat < 256; omega, by show x.f1.toNat < 256; omega⟩
end Go.Proofs.YtafnamchckehmaaGreatDoor.Pu
namespace Go.Proofs.YtafnamchckehmaaGreatDoor.Pr
open Go.RowKit Go.Proofs.YtafnamchckehmaaGreatDoorW.PrintWords Go.Proofs.YtafnamchckehmaaGreatDoorW.PrintLast Go.Proofs.YtafnamchckehmaaGreatDoorW.PrintMore
set_option linter.unusedVariables false
def fvC (l : List S48) (s : Int) : Int := ((Pu.clo (Pu.toR l) s.toNat : Nat) : Int)
end Go.Proofs.YtafnamchckehmaaGreatDoor.Pr
namespace Go.Proofs.YtafnamchckehmaaGreatDoor.Pr
open Go.RowKit Go.Proofs.YtafnamchckehmaaGreatDoorW.PrintWords Go.Proofs.YtafnamchckehmaaGreatDoorW.PrintLast Go.Proofs.YtafnamchckehmaaGreatDoorW.PrintMore
set_option linter.unusedVariables false
def fvS (n : Int) (l : List Int) (s : Int) : Int := ((Pu.cl n.toNat (l.map Int.toNat) s.toNat : Nat) : Int)
end Go.Proofs.YtafnamchckehmaaGreatDoor.Pr
