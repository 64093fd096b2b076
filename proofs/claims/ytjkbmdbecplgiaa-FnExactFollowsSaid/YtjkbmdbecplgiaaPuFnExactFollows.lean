/- The plain law: the program's Follows is the reference's. No condition. -/
import Derived.Test.YtjkbmdbecplgiaaPr9
import Derived.Test.YtjkbmdbecplgiaaPuLaw
import Derived.Test.YtjkbmdbecplgiaaPuClosed
namespace Go.Proofs.Ytjkbmdbecplgiaa.Pu
open Go.RowKit Go.Proofs.YtjkbmdbecplgiaaW.PrintWords Go.Proofs.YtjkbmdbecplgiaaW.PrintLast Go.Proofs.YtjkbmdbecplgiaaW.PrintMore Go.Proofs.Ytjkbmdbecplgiaa.Pr

theorem FnExactFollows (l : List LR) (x : LR) (hl : l.length ≤ 9223372036854775807) (_ : ∀ x ∈ l, (Lit.int .i64 x.f0).wf = true ∧ (Lit.int .i64 x.f1).wf = true) (_ : (Lit.int .i64 x.f0).wf = true ∧ (Lit.int .i64 x.f1).wf = true) : ∃ k, laws_FnExactFollows.f k l x.f0 x.f1 = some true := by
  apply Ev.rounds
  unfold laws_FnExactFollows.f
  obtain ⟨m, hm, hm2⟩ := sz_val l hl
  rw [hm]
  simp only [laws_toRule.f, Option.bind_some]
  by_cases h : m < 0
  · exact Ev.congr (fun k => by rw [if_pos h]) (Ev.now true)
  · have hle := hm2 (by omega)
    have hc : (l.map conv).length ≤ 9223372036854775807 := by rw [List.length_map]; omega
    refine Ev.congr (fun k => by rw [if_neg h]) ?_
    refine Ev.bind (toRule_val l hle) ?_
    refine Ev.bind (folS_val _ hc _ _) ?_
    refine Ev.bind (toRule_val l hle) ?_
    refine Ev.bind (folI_val _ hc _ _) ?_
    refine Ev.congr (fun k => by rw [if_neg (by simp)]) ?_
    refine Ev.bind (toRule_val l hle) ?_
    refine Ev.bind (eqRule_self _ hc) ?_
    exact Ev.congr (fun k => by rw [if_pos rfl]) (Ev.now true)
end Go.Proofs.Ytjkbmdbecplgiaa.Pu
