/- The plain law: the program's AreEquivalent is the reference's. No condition. -/
import Derived.Test.YtjkbmdbecplgiaaPr20
import Derived.Test.YtjkbmdbecplgiaaPr31
import Derived.Test.YtjkbmdbecplgiaaPr7
import Derived.Test.YtjkbmdbecplgiaaPuLaw
import Derived.Test.YtjkbmdbecplgiaaPuEquiv
namespace Go.Proofs.Ytjkbmdbecplgiaa.Pu
open Go.RowKit Go.Proofs.YtjkbmdbecplgiaaW.PrintWords Go.Proofs.YtjkbmdbecplgiaaW.PrintLast Go.Proofs.YtjkbmdbecplgiaaW.PrintMore Go.Proofs.Ytjkbmdbecplgiaa.Pr

def equivV (a b : List IR) : Bool := a.all anyR && (b.all anyR && (b.all (folV a) && a.all (folV b)))
theorem equivS_val (a b : List IR) (ha : a.length ≤ 9223372036854775807) (hb : b.length ≤ 9223372036854775807) : Ev (fun k => spec_AreEquivalent.f k a b) (equivV a b) := by
  unfold spec_AreEquivalent.f equivV
  refine Ev.bind (sets_val a ha) ?_
  cases h1 : a.all anyR with
  | false => exact Ev.congr (fun k => by rw [if_neg (by decide)]; rfl) (Ev.now _)
  | true =>
    refine Ev.congr (fun k => by rw [if_pos rfl]) ?_
    refine Ev.bind (sets_val b hb) ?_
    cases h2 : b.all anyR with
    | false => exact Ev.congr (fun k => by rw [if_neg (by decide)]; rfl) (Ev.now _)
    | true =>
      refine Ev.congr (fun k => by rw [if_pos rfl]) ?_
      refine Ev.bind (l10_val a b ha hb h1 h2) ?_
      cases h3 : a.all (folV b) with
      | false => exact Ev.congr (fun k => by rw [if_neg (by decide)]) (by rw [Bool.and_false]; exact Ev.now _)
      | true =>
        refine Ev.congr (fun k => by rw [if_pos rfl]) ?_
        refine Ev.bind (l10_val b a hb ha h2 h1) ?_
        simp only [Bool.true_and, Bool.and_true]
        exact Ev.now _
theorem equivI_val (a b : List IR) : impl_AreEquivalent.f a b = some (equivV a b) := by
  unfold impl_AreEquivalent.f impl_areAnyRules.f impl_allFollow.f equivV
  simp only [Option.bind_some]
  cases a.all anyR <;> cases b.all anyR <;> cases b.all (folV a) <;> cases a.all (folV b) <;> rfl
theorem FnExactAreEquivalent (a b : List LR) (hl : a.length ≤ 9223372036854775807) (_ : ∀ x ∈ a, (Lit.int .i64 x.f0).wf = true ∧ (Lit.int .i64 x.f1).wf = true) (hl' : b.length ≤ 9223372036854775807) (_ : ∀ x ∈ b, (Lit.int .i64 x.f0).wf = true ∧ (Lit.int .i64 x.f1).wf = true) : ∃ k, laws_FnExactAreEquivalent.f k a b = some true := by
  apply Ev.rounds
  unfold laws_FnExactAreEquivalent.f
  obtain ⟨m, hm, hm2⟩ := sz_val a hl
  rw [hm]
  simp only [Option.bind_some]
  by_cases h : m < 0
  · exact Ev.congr (fun k => by rw [if_pos h]) (Ev.now true)
  · have hle := hm2 (by omega)
    obtain ⟨m', hm', hm2'⟩ := sz_more b hl' m (by omega) (sz_le hm hl)
    rw [hm']
    simp only [Option.bind_some]
    refine Ev.congr (fun k => by rw [if_neg h]) ?_
    by_cases h' : m' < 0
    · exact Ev.congr (fun k => by rw [if_pos h']) (Ev.now true)
    · have hle' := hm2' (by omega)
      have hc : (a.map conv).length ≤ 9223372036854775807 := by rw [List.length_map]; omega
      have hc' : (b.map conv).length ≤ 9223372036854775807 := by rw [List.length_map]; omega
      refine Ev.congr (fun k => by rw [if_neg h']) ?_
      refine Ev.bind (toRule_val a hle) ?_
      refine Ev.bind (toRule_val b hle') ?_
      refine Ev.bind (equivS_val _ _ hc hc') ?_
      refine Ev.bind (toRule_val a hle) ?_
      refine Ev.bind (toRule_val b hle') ?_
      refine Ev.congr (fun k => by rw [equivI_val, Option.bind_some, if_neg (by simp)]) ?_
      refine Ev.bind (toRule_val a hle) ?_
      refine Ev.bind (eqRule_self _ hc) ?_
      refine Ev.congr (fun k => by rw [if_pos rfl]) ?_
      refine Ev.bind (toRule_val b hle') ?_
      refine Ev.bind (eqRule_self _ hc') ?_
      exact Ev.congr (fun k => by rw [if_pos rfl]) (Ev.now true)
end Go.Proofs.Ytjkbmdbecplgiaa.Pu
