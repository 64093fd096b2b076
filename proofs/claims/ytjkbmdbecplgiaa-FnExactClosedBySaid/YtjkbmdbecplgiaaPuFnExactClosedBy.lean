/- The plain law: the program's ClosedBy is the reference's. No condition. -/
import Derived.Test.YtjkbmdbecplgiaaPr6
import Derived.Test.YtjkbmdbecplgiaaPuLaw
import Derived.Test.YtjkbmdbecplgiaaPuClosed
namespace Go.Proofs.Ytjkbmdbecplgiaa.Pu
open Go.RowKit Go.Proofs.YtjkbmdbecplgiaaW.PrintWords Go.Proofs.YtjkbmdbecplgiaaW.PrintLast Go.Proofs.YtjkbmdbecplgiaaW.PrintMore Go.Proofs.Ytjkbmdbecplgiaa.Pr

theorem FnExactClosedBy (l : List LR) (s : Int) (hl : l.length ≤ 9223372036854775807) (_ : ∀ x ∈ l, (Lit.int .i64 x.f0).wf = true ∧ (Lit.int .i64 x.f1).wf = true) (_ : (Lit.int .i64 s).wf = true) : ∃ k, laws_FnExactClosedBy.f k l s = some true := by
  apply Ev.rounds
  unfold laws_FnExactClosedBy.f
  obtain ⟨m, hm, hm2⟩ := sz_val l hl
  rw [hm]
  simp only [Option.bind_some]
  by_cases h : m < 0
  · exact Ev.congr (fun k => by rw [if_pos h]) (Ev.now true)
  · have hle := hm2 (by omega)
    have hc : (l.map conv).length ≤ 9223372036854775807 := by rw [List.length_map]; omega
    refine Ev.congr (fun k => by rw [if_neg h]) ?_
    refine Ev.bind (toRule_val l hle) ?_
    refine Ev.bind (closedS_val _ hc s) ?_
    refine Ev.bind (toRule_val l hle) ?_
    refine Ev.bind (closedI_val _ hc s) ?_
    refine Ev.congr (fun k => by rw [if_pos rfl]) ?_
    refine Ev.bind (toRule_val l hle) ?_
    refine Ev.bind (eqRule_self _ hc) ?_
    exact Ev.congr (fun k => by rw [if_pos rfl]) (Ev.now true)
end Go.Proofs.Ytjkbmdbecplgiaa.Pu
