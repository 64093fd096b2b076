/- The plain law: the program's IsRedundant is the reference's. No condition. -/
import Derived.Test.YtjkbmdbecplgiaaPr11
import Derived.Test.YtjkbmdbecplgiaaPr21
import Derived.Test.YtjkbmdbecplgiaaPr32
import Derived.Test.YtjkbmdbecplgiaaPuLaw
import Derived.Test.YtjkbmdbecplgiaaPuRedun
namespace Go.Proofs.Ytjkbmdbecplgiaa.Pu
open Go.RowKit Go.Proofs.YtjkbmdbecplgiaaW.PrintWords Go.Proofs.YtjkbmdbecplgiaaW.PrintLast Go.Proofs.YtjkbmdbecplgiaaW.PrintMore Go.Proofs.Ytjkbmdbecplgiaa.Pr

theorem FnExactIsRedundant (l : List LR) (i : Int) (hl : l.length ≤ 9223372036854775807) (_ : ∀ x ∈ l, (Lit.int .i64 x.f0).wf = true ∧ (Lit.int .i64 x.f1).wf = true) (_ : (Lit.int .i64 i).wf = true) : ∃ k, laws_FnExactIsRedundant.f k l i = some true := by
  apply Ev.rounds
  unfold laws_FnExactIsRedundant.f
  obtain ⟨m, hm, hm2⟩ := sz_val l hl
  rw [hm]
  simp only [Option.bind_some]
  by_cases h : m < 0
  · exact Ev.congr (fun k => by rw [if_pos h]) (Ev.now true)
  · have hle := hm2 (by omega)
    have hc : (l.map conv).length ≤ 1048576 := by rw [List.length_map]; omega
    refine Ev.congr (fun k => by rw [if_neg h]) ?_
    refine Ev.bind (toRule_val l hle) ?_
    refine Ev.bind (redS_val _ hc i) ?_
    refine Ev.bind (toRule_val l hle) ?_
    refine Ev.bind (redI_val _ hc i) ?_
    refine Ev.congr (fun k => by rw [if_neg (by simp)]) ?_
    refine Ev.bind (toRule_val l hle) ?_
    refine Ev.bind (eqRule_self _ (by omega)) ?_
    exact Ev.congr (fun k => by rw [if_pos rfl]) (Ev.now true)
end Go.Proofs.Ytjkbmdbecplgiaa.Pu
