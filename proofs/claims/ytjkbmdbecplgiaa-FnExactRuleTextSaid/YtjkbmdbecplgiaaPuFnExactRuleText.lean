/- The plain law: the program's RuleText is the reference's. No condition. -/
import Derived.Test.YtjkbmdbecplgiaaPr24
import Derived.Test.YtjkbmdbecplgiaaPuText
namespace Go.Proofs.Ytjkbmdbecplgiaa.Pu
open Go.RowKit Go.Proofs.YtjkbmdbecplgiaaW.PrintWords Go.Proofs.YtjkbmdbecplgiaaW.PrintLast Go.Proofs.YtjkbmdbecplgiaaW.PrintMore Go.Proofs.Ytjkbmdbecplgiaa.Pr

theorem FnExactRuleText (x : S23) (_ : (Lit.int .i64 x.f0).wf = true ∧ (Lit.int .i64 x.f1).wf = true) : ∃ k, laws_FnExactRuleText.f k x.f0 x.f1 = some true := by
  apply Ev.rounds
  unfold laws_FnExactRuleText.f
  simp only [laws_toRule.f, Option.bind_some]
  refine Ev.bind (ruleTextS_val _ _) ?_
  refine Ev.bind (ruleTextI_val _ _) ?_
  exact Ev.congr (fun k => by rw [if_pos rfl]) (Ev.now true)
end Go.Proofs.Ytjkbmdbecplgiaa.Pu
