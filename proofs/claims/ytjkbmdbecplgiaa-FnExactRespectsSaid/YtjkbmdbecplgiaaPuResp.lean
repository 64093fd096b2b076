/- What Respects answers. No condition. -/
import Derived.Test.YtjkbmdbecplgiaaPr1
import Derived.Test.YtjkbmdbecplgiaaPr2
import Derived.Test.YtjkbmdbecplgiaaPuRul2
import Derived.Test.YtjkbmdbecplgiaaGAnyRules
namespace Go.Proofs.Ytjkbmdbecplgiaa.Pu
open Go.RowKit Go.Proofs.YtjkbmdbecplgiaaW.PrintWords Go.Proofs.YtjkbmdbecplgiaaW.PrintLast Go.Proofs.YtjkbmdbecplgiaaW.PrintMore Go.Proofs.Ytjkbmdbecplgiaa.Pr

def respV (r : IR) (s : Int) : Bool := anyR r && isAny s && (!sub (toP r).1 s.toNat || sub (toP r).2 s.toNat)
theorem respS_val (a b s : Int) : spec_Respects.f a b s = some (respV ⟨a, b⟩ s) := by
  unfold spec_Respects.f
  rw [rule_val, Option.bind_some, isSetB_8, isSetB_8, specSet_val, Option.bind_some, isSetB_8]
  unfold respV
  rw [show (isAny a && isAny b) = anyR ⟨a, b⟩ from rfl]
  cases h : anyR ⟨a, b⟩ with
  | false => rfl
  | true =>
    obtain ⟨h1, h2, h3, h4⟩ := anyR_nat h
    cases hs : isAny s with
    | false => rfl
    | true =>
      obtain ⟨n, hn, rfl⟩ := isAny_nat hs
      have e1 : a = ((toP ⟨a, b⟩).1 : Int) := h1
      have e2 : b = ((toP ⟨a, b⟩).2 : Int) := h2
      generalize (toP ⟨a, b⟩).1 = x at *
      generalize (toP ⟨a, b⟩).2 = y at *
      subst e1 e2
      rw [if_pos rfl, if_pos rfl, Int.toNat_natCast]
      cases hx : sub x n with
      | false => rw [if_neg (by rw [and_eq_sub h3 hn, hx]; decide)]; rfl
      | true =>
        rw [if_pos ((and_eq_sub h3 hn).2 hx)]
        refine congrArg some ?_
        rw [Bool.eq_iff_iff, beq_iff_eq, and_eq_sub h4 hn]
        simp
theorem respI_val (a b s : Int) : impl_Respects.f a b s = some (respV ⟨a, b⟩ s) := by
  unfold impl_Respects.f impl_areAnyRules.f
  rw [Option.bind_some, any_val, Option.bind_some]
  unfold respV
  rw [show ([(⟨a, b⟩ : IR)].all anyR) = anyR ⟨a, b⟩ from by simp]
  cases h : anyR ⟨a, b⟩ with
  | false => rfl
  | true =>
    obtain ⟨h1, h2, h3, h4⟩ := anyR_nat h
    cases hs : isAny s with
    | false => rfl
    | true =>
      obtain ⟨n, hn, rfl⟩ := isAny_nat hs
      have e1 : a = ((toP ⟨a, b⟩).1 : Int) := h1
      have e2 : b = ((toP ⟨a, b⟩).2 : Int) := h2
      generalize (toP ⟨a, b⟩).1 = x at *
      generalize (toP ⟨a, b⟩).2 = y at *
      subst e1 e2
      rw [if_pos rfl, if_pos rfl, Int.toNat_natCast, inSet_val h3 hn, Option.bind_some, inSet_val h4 hn, Option.bind_some]
      cases sub x n <;> simp
end Go.Proofs.Ytjkbmdbecplgiaa.Pu
