/- The plain law: the program's HoldsIn is the reference's. No condition. -/
import Derived.Test.YtemhlblajnlogaaPr32
import Derived.Test.YtemhlblajnlogaaPr8
import Derived.Test.YtemhlblajnlogaaPuLawC
import Derived.Test.YtemhlblajnlogaaPuCHold
namespace Go.Proofs.Ytemhlblajnlogaa.Pu
open Go.RowKit Go.Proofs.YtemhlblajnlogaaW.PrintWords Go.Proofs.YtemhlblajnlogaaW.PrintLast Go.Proofs.YtemhlblajnlogaaW.PrintMore Go.Proofs.Ytemhlblajnlogaa.Pr

theorem FnExactHoldsIn (x0 : S24) (x1 : S33) (_ : (Lit.int .i64 x0.f0).wf = true ∧ ∀ x ∈ x0.f1, (Lit.int .i64 x).wf = true) (hl : x0.f1.length ≤ 9223372036854775807) (_ : (Lit.int .i64 x1.f0).wf = true ∧ (Lit.int .i64 x1.f1).wf = true) : ∃ k, laws_FnExactHoldsIn.f k x0.f0 x0.f1 x1.f0 x1.f1 = some true := by
  apply Ev.rounds
  unfold laws_FnExactHoldsIn.f
  obtain ⟨m, hm, hm2⟩ := szC_val x0.f0 x0.f1 hl
  rw [hm]
  simp only [Option.bind_some]
  by_cases h : m < 0
  · exact Ev.congr (fun k => by rw [if_pos h]) (Ev.now true)
  · have hle := hm2 (by omega)
    refine Ev.congr (fun k => by rw [if_neg h]) ?_
    refine Ev.bind (toC_val _ _ hle) ?_
    refine Ev.bind (show Ev (fun _ => laws_toRule.f x1.f0 x1.f1) (x1.f0, x1.f1) from Ev.now _) ?_
    refine Ev.bind (holdS_val _ _ hle x1.f0 x1.f1) ?_
    refine Ev.bind (toC_val _ _ hle) ?_
    refine Ev.bind (show Ev (fun _ => laws_toRule.f x1.f0 x1.f1) (x1.f0, x1.f1) from Ev.now _) ?_
    refine Ev.bind (holdI_val _ _ hle x1.f0 x1.f1) ?_
    refine Ev.congr (fun k => by rw [if_neg (by simp)]) ?_
    refine Ev.bind (toC_val _ _ hle) ?_
    refine Ev.bind (eqC_self _ _ hl) ?_
    exact Ev.congr (fun k => by rw [if_pos rfl]) (Ev.now true)
end Go.Proofs.Ytemhlblajnlogaa.Pu
