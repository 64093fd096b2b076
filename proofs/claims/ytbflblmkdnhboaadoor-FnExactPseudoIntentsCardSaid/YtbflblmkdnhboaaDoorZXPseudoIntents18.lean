/- What the law needs of the program's functions as plain functions, of the proofs that their calls answer so, and of plain laws: gathered by a program of this place (pack.py) out of its printed texts. No condition beyond what each statement says. -/
import Derived.Test.YtbflblmkdnhboaaDoorZXPseudoIntents16
import Derived.Test.YtbflblmkdnhboaaDoorZXPseudoIntents17
namespace Go.Proofs.YtbflblmkdnhboaaDoor.Pr
open Go.RowKit Go.Proofs.YtbflblmkdnhboaaDoorW.PrintWords Go.Proofs.YtbflblmkdnhboaaDoorW.PrintLast Go.Proofs.YtbflblmkdnhboaaDoorW.PrintMore
open Go.Sort Go.Shelf
set_option linter.unusedVariables false
/-- how many elements a set has, reckoned quickly -/
def pc (x : Nat) : Nat := x % 2 + x / 2 % 2 + x / 4 % 2 + x / 8 % 2 + x / 16 % 2 + x / 32 % 2 + x / 64 % 2 + x / 128 % 2
theorem pc_all : ∀ x : Fin 256, pc x.val = (Pu.elN x.val).length := by decide +kernel
def cfC (x y : Fin 256) : Int := (((Pu.elN x.val).length : Nat) : Int) - (((Pu.elN y.val).length : Nat) : Int)
def ltC (x y : Fin 256) : Bool := Nat.blt (pc x.val) (pc y.val)
theorem lt_cfC : ltOf cfC = ltC := by
  funext x y
  unfold ltOf cfC ltC
  rw [← pc_all x, ← pc_all y, Bool.eq_iff_iff, decide_eq_true_iff, Nat.blt_eq]
  omega
def stOut (m : Nat) : List Nat := (stab ltC (arrF (Pu.allN m))).toList.map fun x => x.val
def upTo (f : Nat → Nat) : List Nat → Bool
  | [] => true
  | [_] => true
  | x :: y :: l => Nat.ble (f x) (f y) && upTo f (y :: l)
def stGood (m : Nat) : Bool := (stOut m).length == 2 ^ m && ((List.range (2 ^ m)).all fun x => (stOut m).contains x) && upTo pc (stOut m)
theorem stGood_all : ∀ m : Fin 7, stGood m.val = true := by decide +kernel
end Go.Proofs.YtbflblmkdnhboaaDoor.Pr
