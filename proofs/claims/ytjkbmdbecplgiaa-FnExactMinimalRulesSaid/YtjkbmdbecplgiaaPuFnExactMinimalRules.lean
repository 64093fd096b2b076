/- The plain law: the program's MinimalRules are the reference's. No condition. -/
import Derived.Test.YtjkbmdbecplgiaaPr13
import Derived.Test.YtjkbmdbecplgiaaPr21
import Derived.Test.YtjkbmdbecplgiaaPr33
import Derived.Test.YtjkbmdbecplgiaaPuLaw
import Derived.Test.YtjkbmdbecplgiaaPuRedun
import Derived.Test.YtjkbmdbecplgiaaPuRules
import Derived.Test.YtjkbmdbecplgiaaPuAre
namespace Go.Proofs.Ytjkbmdbecplgiaa.Pu
open Go.RowKit Go.Proofs.YtjkbmdbecplgiaaW.PrintWords Go.Proofs.YtjkbmdbecplgiaaW.PrintLast Go.Proofs.YtjkbmdbecplgiaaW.PrintMore Go.Proofs.Ytjkbmdbecplgiaa.Pr

/-- the rules that are left: from place i on, d are still to be looked at -/
def mini : Nat → List IR → Nat → List IR
  | 0, l, _ => l
  | d + 1, l, i => if redV l (i : Int) = true then mini d (l.eraseIdx i) i else mini d l (i + 1)
theorem mini_length : ∀ (d : Nat) (l : List IR) (i : Nat), (mini d l i).length ≤ l.length
  | 0, _, _ => Nat.le_refl _
  | d + 1, l, i => by
    rw [mini]
    split
    · exact Nat.le_trans (mini_length d _ i) (by rw [List.length_eraseIdx]; split <;> omega)
    · exact mini_length d l (i + 1)
theorem miniS_loop : ∀ (d : Nat) (l : List IR) (i : Nat), l.length ≤ 1048576 → i + d = l.length → Ev (fun k => spec_MinimalRules.l0 k l (i : Int)) (mini d l i) := by
  intro d
  induction d with
  | zero =>
    intro l i hl h
    refine Ev.step (f := fun _ => some l) (fun k => ?_) (Ev.now _)
    simp only [spec_MinimalRules.l0]
    rw [if_neg (by omega)]
  | succ d ih =>
    intro l i hl h
    have hi : i < l.length := by omega
    refine Ev.step (f := fun k => (spec_IsRedundant.f k l (i : Int)).bind fun t => if t = true then spec_MinimalRules.l0 k (l.eraseIdx i) (i : Int) else spec_MinimalRules.l0 k l ((i + 1 : Nat) : Int)) (fun k => ?_) ?_
    · simp only [spec_MinimalRules.l0]
      rw [if_pos (by omega), without_val l hl i hi, wrap_succ hi (by omega)]
      rfl
    · refine Ev.bind (redS_val l hl _) ?_
      rw [mini]
      cases hr : redV l (i : Int) with
      | true =>
        have he : (l.eraseIdx i).length = l.length - 1 := by rw [List.length_eraseIdx, if_pos hi]
        exact Ev.congr (fun k => by rw [if_pos rfl]) (by rw [if_pos rfl]; exact ih _ i (by omega) (by omega))
      | false => exact Ev.congr (fun k => by rw [if_neg (by decide)]) (by rw [if_neg (by decide)]; exact ih l (i + 1) hl (by omega))
theorem miniI_loop : ∀ (d : Nat) (l : List IR) (i : Nat), l.length ≤ 1048576 → i + d = l.length → Ev (fun k => impl_MinimalRules.l0 k l (i : Int)) (mini d l i) := by
  intro d
  induction d with
  | zero =>
    intro l i hl h
    refine Ev.step (f := fun _ => some l) (fun k => ?_) (Ev.now _)
    simp only [impl_MinimalRules.l0]
    rw [if_neg (by omega)]
  | succ d ih =>
    intro l i hl h
    have hi : i < l.length := by omega
    refine Ev.step (f := fun k => (impl_IsRedundant.f k l (i : Int)).bind fun t => if t = true then impl_MinimalRules.l0 k (l.eraseIdx i) (i : Int) else impl_MinimalRules.l0 k l ((i + 1 : Nat) : Int)) (fun k => ?_) ?_
    · simp only [impl_MinimalRules.l0]
      rw [if_pos (by omega), others_val l hl i hi, wrap_succ hi (by omega)]
      rfl
    · refine Ev.bind (redI_val l hl _) ?_
      rw [mini]
      cases hr : redV l (i : Int) with
      | true =>
        have he : (l.eraseIdx i).length = l.length - 1 := by rw [List.length_eraseIdx, if_pos hi]
        exact Ev.congr (fun k => by rw [if_pos rfl]) (by rw [if_pos rfl]; exact ih _ i (by omega) (by omega))
      | false => exact Ev.congr (fun k => by rw [if_neg (by decide)]) (by rw [if_neg (by decide)]; exact ih l (i + 1) hl (by omega))
def miniV (l : List IR) : List IR := if l.all anyR = true then mini l.length l 0 else []
theorem miniV_length (l : List IR) : (miniV l).length ≤ l.length := by
  unfold miniV
  split
  · exact mini_length _ _ _
  · exact Nat.zero_le _
theorem miniS_val (l : List IR) (hl : l.length ≤ 1048576) : Ev (fun k => spec_MinimalRules.f k l) (miniV l) := by
  unfold spec_MinimalRules.f miniV
  simp only [Option.bind_some, List.nil_append, List.length_nil]
  refine Ev.bind (sets_val l (by omega)) ?_
  cases h : l.all anyR with
  | false => exact Ev.congr (fun k => by rw [if_neg (by decide), if_neg (by decide)]) (Ev.now _)
  | true => exact Ev.congr (fun k => by rw [if_pos rfl, if_pos (by omega)]) (by rw [if_pos rfl]; exact miniS_loop l.length l 0 hl (by omega))
theorem miniI_val (l : List IR) (hl : l.length ≤ 1048576) : Ev (fun k => impl_MinimalRules.f k l) (miniV l) := by
  unfold impl_MinimalRules.f miniV
  rw [show impl_areAnyRules.f l = some (l.all anyR) from rfl]
  simp only [Option.bind_some]
  cases h : l.all anyR with
  | false => exact Ev.congr (fun k => by rw [if_neg (by decide), if_neg (by decide)]) (Ev.now _)
  | true => exact Ev.congr (fun k => by rw [if_pos rfl, show slices_Clone_impl_Rule.f l = some l from by unfold slices_Clone_impl_Rule.f; rw [if_pos (by omega)], Option.bind_some]) (by rw [if_pos rfl]; exact miniI_loop l.length l 0 hl (by omega))
theorem FnExactMinimalRules (l : List LR) (hl : l.length ≤ 9223372036854775807) (_ : ∀ x ∈ l, (Lit.int .i64 x.f0).wf = true ∧ (Lit.int .i64 x.f1).wf = true) : ∃ k, laws_FnExactMinimalRules.f k l = some true := by
  apply Ev.rounds
  unfold laws_FnExactMinimalRules.f
  obtain ⟨m, hm, hm2⟩ := sz_val l hl
  rw [hm]
  simp only [Option.bind_some]
  by_cases h : m < 0
  · exact Ev.congr (fun k => by rw [if_pos h]) (Ev.now true)
  · have hle := hm2 (by omega)
    have hc : (l.map conv).length ≤ 1048576 := by rw [List.length_map]; omega
    have hv := miniV_length (l.map conv)
    refine Ev.congr (fun k => by rw [if_neg h]) ?_
    refine Ev.bind (toRule_val l hle) ?_
    refine Ev.bind (miniS_val _ hc) ?_
    refine Ev.bind (toRule_val l hle) ?_
    refine Ev.bind (miniI_val _ hc) ?_
    generalize hq : miniV (l.map conv) = q at *
    refine Ev.bind (eqRule_self q (by omega)) ?_
    refine Ev.congr (fun k => by rw [if_pos rfl]) ?_
    refine Ev.bind (toRule_val l hle) ?_
    refine Ev.bind (eqRule_self _ (by omega)) ?_
    refine Ev.congr (fun k => by rw [if_pos rfl]) ?_
    refine Ev.bind (mark_val _ hc) ?_
    refine Ev.congr (fun k => by rw [if_neg (mark_pos _)]) ?_
    refine Ev.bind (eqRule_self q (by omega)) ?_
    refine Ev.step (g := fun k => laws_FnExactMinimalRules.j0 k l q q false) (fun k => by simp only [laws_FnExactMinimalRules.j0]; rw [if_neg (by decide)]) ?_
    refine Ev.bind (mark_val q (by omega)) ?_
    refine Ev.bind (held_val q (by omega)) ?_
    refine Ev.congr (fun k => by rw [if_neg (mark_pos _), if_pos rfl]) ?_
    refine Ev.bind (toRule_val l hle) ?_
    refine Ev.bind (miniI_val _ hc) ?_
    rw [hq]
    refine Ev.bind (eqRule_self q (by omega)) ?_
    refine Ev.congr (fun k => by rw [if_pos rfl]) ?_
    refine Ev.bind (held_val q (by omega)) ?_
    exact Ev.congr (fun k => by rw [if_neg (mark_pos _), if_pos rfl]) (Ev.now true)
end Go.Proofs.Ytjkbmdbecplgiaa.Pu
