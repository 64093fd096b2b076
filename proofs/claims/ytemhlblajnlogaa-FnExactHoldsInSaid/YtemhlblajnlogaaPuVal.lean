/- What the small tests on sets answer. No condition. -/
import Derived.Test.YtemhlblajnlogaaPr1
import Derived.Test.YtemhlblajnlogaaPr3
import Derived.Test.YtemhlblajnlogaaPr6
import Derived.Test.YtemhlblajnlogaaPr7
import Derived.Test.YtemhlblajnlogaaPuTy0
namespace Go.Proofs.Ytemhlblajnlogaa.Pu
open Go.RowKit Go.Proofs.YtemhlblajnlogaaW.PrintWords Go.Proofs.YtemhlblajnlogaaW.PrintLast Go.Proofs.YtemhlblajnlogaaW.PrintMore Go.Proofs.Ytemhlblajnlogaa.Pr

theorem l1In_val (a b c : Int) : spec_l1In.f a b c = some (decide (b ≤ a ∧ a ≤ c)) := by
  unfold spec_l1In.f
  by_cases h : b ≤ a
  · rw [if_pos h]; simp [h]
  · rw [if_neg h]; simp [h]
theorem within_val (a b c : Int) : impl_within.f a b c = some (decide (b ≤ a ∧ a ≤ c)) := by
  unfold impl_within.f
  by_cases h : b ≤ a
  · rw [if_pos h]; simp [h]
  · rw [if_neg h]; simp [h]
theorem setB_of {n s : Int} (h : 0 ≤ n ∧ n ≤ 8) : decide (0 ≤ s ∧ s ≤ 2 ^ n.toNat - 1) = isSetB n s := by
  unfold isSetB
  generalize (2 : Int) ^ n.toNat = q
  rw [decide_eq_decide]
  omega
theorem setB_not {n s : Int} (h : ¬ (0 ≤ n ∧ n ≤ 8)) : isSetB n s = false := by
  unfold isSetB
  rw [decide_eq_false_iff_not]
  omega
theorem specSet_val (n s : Int) : spec_IsSet.f n s = some (isSetB n s) := by
  unfold spec_IsSet.f
  rw [l1In_val, Option.bind_some]
  by_cases h : 0 ≤ n ∧ n ≤ 8
  · rw [if_pos (decide_eq_true h), wrapU_val n h.1 h.2, if_pos h.1, upper_val n h.1 h.2, l1In_val, Option.bind_some, setB_of h]
  · rw [if_neg (by simpa using h), setB_not h]
theorem set_val (n s : Int) : impl_IsSet.f n s = some (isSetB n s) := by
  unfold impl_IsSet.f
  rw [within_val, Option.bind_some]
  by_cases h : 0 ≤ n ∧ n ≤ 8
  · rw [if_pos (decide_eq_true h), if_pos h.1, upper_val n h.1 h.2, within_val, Option.bind_some, setB_of h]
  · rw [if_neg (by simpa using h), setB_not h]
theorem any_val (s : Int) : impl_isAnySet.f s = some (isAny s) := by
  unfold impl_isAnySet.f
  rw [set_val, Option.bind_some, isSetB_8]
theorem rule_val (n a b : Int) : spec_l9Rule.f n a b = some (isSetB n a && isSetB n b) := by
  unfold spec_l9Rule.f
  rw [specSet_val, Option.bind_some]
  cases isSetB n a with
  | false => rfl
  | true => rw [if_pos rfl, specSet_val, Option.bind_some]; rfl
end Go.Proofs.Ytemhlblajnlogaa.Pu
