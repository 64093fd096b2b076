/- What FullSet answers, in the reference. No condition. -/
import Derived.Test.YtemhlblajnlogaaPr1
import Derived.Test.YtemhlblajnlogaaPuVal
namespace Go.Proofs.Ytemhlblajnlogaa.Pu
open Go.RowKit Go.Proofs.YtemhlblajnlogaaW.PrintWords Go.Proofs.YtemhlblajnlogaaW.PrintLast Go.Proofs.YtemhlblajnlogaaW.PrintMore Go.Proofs.Ytemhlblajnlogaa.Pr

def fullV (n : Int) : Int := if 0 ≤ n ∧ n ≤ 8 then 2 ^ n.toNat - 1 else 0
theorem fullS_val (n : Int) : spec_FullSet.f n = some (fullV n) := by
  unfold spec_FullSet.f fullV
  rw [l1In_val, Option.bind_some]
  by_cases h : 0 ≤ n ∧ n ≤ 8
  · rw [if_pos h]
    first
      | rw [if_pos (decide_eq_true h), wrapU_val n h.1 h.2, if_pos h.1, upper_val n h.1 h.2]
      | rw [if_neg (by simpa using h), wrapU_val n h.1 h.2, if_pos h.1, upper_val n h.1 h.2]
  · rw [if_neg h]
    first
      | rw [if_neg (by simpa using h)]
      | rw [if_pos (by simpa using h)]
theorem fullV_nat {m : Nat} (h : m ≤ 8) : fullV (m : Int) = ((2 ^ m - 1 : Nat) : Int) := by
  unfold fullV
  rw [if_pos (by omega), Int.toNat_natCast]
  have hp := Nat.two_pow_pos m
  rw [show ((2 ^ m - 1 : Nat) : Int) = ((2 ^ m : Nat) : Int) - 1 from by omega, Int.natCast_pow]
  rfl
end Go.Proofs.Ytemhlblajnlogaa.Pu
