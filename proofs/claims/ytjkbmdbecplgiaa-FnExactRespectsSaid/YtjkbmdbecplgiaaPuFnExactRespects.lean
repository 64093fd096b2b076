/- The plain law: the program's Respects is the reference's. No condition. -/
import Derived.Test.YtjkbmdbecplgiaaPr2
import Derived.Test.YtjkbmdbecplgiaaPuResp
namespace Go.Proofs.Ytjkbmdbecplgiaa.Pu
open Go.RowKit Go.Proofs.YtjkbmdbecplgiaaW.PrintWords Go.Proofs.YtjkbmdbecplgiaaW.PrintLast Go.Proofs.YtjkbmdbecplgiaaW.PrintMore Go.Proofs.Ytjkbmdbecplgiaa.Pr

theorem FnExactRespects (x : S23) (s : Int) (_ : (Lit.int .i64 x.f0).wf = true ∧ (Lit.int .i64 x.f1).wf = true) (_ : (Lit.int .i64 s).wf = true) : laws_FnExactRespects.f x.f0 x.f1 s = some true := by
  unfold laws_FnExactRespects.f laws_toRule.f
  simp only [Option.bind_some]
  rw [respS_val, respI_val]
  simp
end Go.Proofs.Ytjkbmdbecplgiaa.Pu
