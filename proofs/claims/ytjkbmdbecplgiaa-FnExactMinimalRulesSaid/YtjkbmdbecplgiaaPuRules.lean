/- What the functions on rules answer, in plain words: sets, rules, closures. No condition. -/
import Derived.Test.YtjkbmdbecplgiaaPr5
import Derived.Test.YtjkbmdbecplgiaaPuRul2
namespace Go.Proofs.Ytjkbmdbecplgiaa.Pu
open Go.RowKit Go.Proofs.YtjkbmdbecplgiaaW.PrintWords Go.Proofs.YtjkbmdbecplgiaaW.PrintLast Go.Proofs.YtjkbmdbecplgiaaW.PrintMore Go.Proofs.Ytjkbmdbecplgiaa.Pr

theorem sets_loop (l : List IR) (hl : l.length ≤ 9223372036854775807) : ∀ (rest : List IR) (i : Nat), l.drop i = rest → Ev (fun k => spec_l9Sets.l0 k l (i : Int)) (rest.all anyR) := by
  intro rest
  induction rest with
  | nil =>
    intro i h
    have := drop_nil h
    refine Ev.step (f := fun _ => some true) (fun k => ?_) (Ev.now _)
    simp only [spec_l9Sets.l0]
    rw [if_neg (by omega)]
  | cons x rest ih =>
    intro i h
    obtain ⟨hi, hx, hr⟩ := drop_cons (d := z25) h
    rw [List.all_cons]
    cases e : anyR x with
    | true =>
      refine Ev.step (f := fun k => spec_l9Sets.l0 k l ((i + 1 : Nat) : Int)) (fun k => ?_) (ih (i + 1) hr)
      simp only [spec_l9Sets.l0]
      rw [if_pos (by omega), if_pos (by omega), rdR, hx, rule_val, Option.bind_some, isSetB_8, isSetB_8, show (isAny x.f0 && isAny x.f1) = true from e, if_pos rfl, wrap_succ hi hl]
    | false =>
      refine Ev.step (f := fun _ => some false) (fun k => ?_) (Ev.now false)
      simp only [spec_l9Sets.l0]
      rw [if_pos (by omega), if_pos (by omega), rdR, hx, rule_val, Option.bind_some, isSetB_8, isSetB_8, show (isAny x.f0 && isAny x.f1) = false from e, if_neg (by decide)]
theorem sets_val (l : List IR) (hl : l.length ≤ 9223372036854775807) : Ev (fun k => spec_l9Sets.f k l) (l.all anyR) := sets_loop l hl l 0 rfl
end Go.Proofs.Ytjkbmdbecplgiaa.Pu
