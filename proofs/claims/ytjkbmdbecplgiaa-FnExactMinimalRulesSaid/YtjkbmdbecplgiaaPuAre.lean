/- What AreRules answers. No condition beyond the lengths' bound. -/
import Derived.Test.YtjkbmdbecplgiaaPr2
import Derived.Test.YtjkbmdbecplgiaaPuVal
import Derived.Test.YtjkbmdbecplgiaaGAreRules
namespace Go.Proofs.Ytjkbmdbecplgiaa.Pu
open Go.RowKit Go.Proofs.YtjkbmdbecplgiaaW.PrintWords Go.Proofs.YtjkbmdbecplgiaaW.PrintLast Go.Proofs.YtjkbmdbecplgiaaW.PrintMore Go.Proofs.Ytjkbmdbecplgiaa.Pr

def areV (n : Int) (l : List IR) : Bool := decide (0 ≤ n ∧ n ≤ 6) && decide ((l.length : Int) ≤ 40) && l.all (ruleB n)
theorem are_loop (n : Int) (l : List IR) (hl : l.length ≤ 9223372036854775807) : ∀ (rest : List IR) (i : Nat), l.drop i = rest → Ev (fun k => spec_AreRules.l0 k n l (i : Int)) (decide (0 ≤ n ∧ n ≤ 6) && decide ((l.length : Int) ≤ 40) && rest.all (ruleB n)) := by
  intro rest
  induction rest with
  | nil =>
    intro i h
    have := drop_nil h
    refine Ev.step (f := fun _ => some (decide (0 ≤ n ∧ n ≤ 6) && decide ((l.length : Int) ≤ 40) && true)) (fun k => ?_) (Ev.now _)
    simp only [spec_AreRules.l0]
    rw [if_neg (by omega), l1In_val, Option.bind_some, Bool.and_true]
    cases decide (0 ≤ n ∧ n ≤ 6) <;> rfl
  | cons x rest ih =>
    intro i h
    obtain ⟨hi, hx, hr⟩ := drop_cons (d := z25) h
    rw [List.all_cons]
    cases e : ruleB n x with
    | true =>
      refine Ev.step (f := fun k => spec_AreRules.l0 k n l ((i + 1 : Nat) : Int)) (fun k => ?_) (ih (i + 1) hr)
      simp only [spec_AreRules.l0]
      rw [if_pos (by omega), if_pos (by omega), rdR, hx, rule_val, Option.bind_some, show (isSetB n x.f0 && isSetB n x.f1) = true from e, if_pos rfl, wrap_succ hi hl]
    | false =>
      refine Ev.step (f := fun _ => some false) (fun k => ?_) ?_
      · simp only [spec_AreRules.l0]
        rw [if_pos (by omega), if_pos (by omega), rdR, hx, rule_val, Option.bind_some, show (isSetB n x.f0 && isSetB n x.f1) = false from e, if_neg (by decide)]
      · rw [Bool.false_and, Bool.and_false]
        exact Ev.now false
theorem areS_val (n : Int) (l : List IR) (hl : l.length ≤ 9223372036854775807) : Ev (fun k => spec_AreRules.f k n l) (areV n l) := are_loop n l hl l 0 rfl
theorem areI_val (n : Int) (l : List IR) : impl_AreRules.f n l = some (areV n l) := rfl
theorem areV_nat {n : Int} {l : List IR} (h : areV n l = true) : ∃ m : Nat, n = (m : Int) ∧ m ≤ 6 ∧ l.length ≤ 40 ∧ l.all anyR = true ∧ ∀ r ∈ l, (toP r).1 < 2 ^ m ∧ (toP r).2 < 2 ^ m := by
  unfold areV at h
  rw [Bool.and_eq_true, Bool.and_eq_true, decide_eq_true_iff, decide_eq_true_iff, List.all_eq_true] at h
  obtain ⟨⟨h1, h2⟩, h3⟩ := h
  refine ⟨n.toNat, by omega, by omega, by omega, List.all_eq_true.2 fun r hr => ?_, fun r hr => ?_⟩
  · have := h3 r hr
    unfold ruleB at this
    rw [Bool.and_eq_true] at this
    unfold anyR
    rw [isSetB_any this.1, isSetB_any this.2]; rfl
  · have := h3 r hr
    unfold ruleB at this
    rw [Bool.and_eq_true] at this
    obtain ⟨m, a, hm, e1, ha, e2⟩ := isSetB_nat this.1
    obtain ⟨m', b, hm', e1', hb, e2'⟩ := isSetB_nat this.2
    unfold toP
    rw [e2, e2', e1, Int.toNat_natCast, Int.toNat_natCast, Int.toNat_natCast]
    refine ⟨ha, ?_⟩
    have : m' = m := by omega
    rw [← this]; exact hb
end Go.Proofs.Ytjkbmdbecplgiaa.Pu
