/- The plain law: the program's IsDirect is the reference's. No condition. -/
import Derived.Test.YtjkbmdbecplgiaaPr11
import Derived.Test.YtjkbmdbecplgiaaPr18
import Derived.Test.YtjkbmdbecplgiaaPr29
import Derived.Test.YtjkbmdbecplgiaaPuLaw
import Derived.Test.YtjkbmdbecplgiaaPuClosed
import Derived.Test.YtjkbmdbecplgiaaPuAre
import Derived.Test.YtjkbmdbecplgiaaPuFull
namespace Go.Proofs.Ytjkbmdbecplgiaa.Pu
open Go.RowKit Go.Proofs.YtjkbmdbecplgiaaW.PrintWords Go.Proofs.YtjkbmdbecplgiaaW.PrintLast Go.Proofs.YtjkbmdbecplgiaaW.PrintMore Go.Proofs.Ytjkbmdbecplgiaa.Pr

/-- from a set on, d sets: is one step the closure? -/
def dirFrom (R : Rules) : Nat → Nat → Bool
  | _, 0 => true
  | s, d + 1 => decide (step R s = clo R s) && dirFrom R (s + 1) d
def dirV (n : Int) (l : List IR) : Bool := areV n l && dirFrom (toR l) 0 (2 ^ n.toNat)
theorem dirS_loop (m : Nat) (hm : m ≤ 6) (l : List IR) (hl : l.length ≤ 9223372036854775807) (ha : l.all anyR = true) : ∀ (d s : Nat), s + d = 2 ^ m → Ev (fun k => spec_IsDirect.l0 k (m : Int) l (s : Int)) (dirFrom (toR l) s d) := by
  intro d
  have h6 : 2 ^ m ≤ 2 ^ 6 := Nat.pow_le_pow_right (by decide) hm
  have hpos := Nat.two_pow_pos m
  induction d with
  | zero =>
    intro s hs
    refine Ev.step (f := fun _ => some true) (fun k => ?_) (Ev.now _)
    simp only [spec_IsDirect.l0]
    rw [fullS_val, Option.bind_some, fullV_nat (by omega), if_neg (by omega)]
  | succ d ih =>
    intro s hs
    refine Ev.step (f := fun k => (spec_l12Step.f k l (s : Int)).bind fun t => (spec_l9Closed.f k l (s : Int)).bind fun u => if t = u then spec_IsDirect.l0 k (m : Int) l ((s + 1 : Nat) : Int) else some false) (fun k => ?_) ?_
    · simp only [spec_IsDirect.l0]
      rw [fullS_val, Option.bind_some, fullV_nat (by omega), if_pos (by omega), show wrap64 ((s : Int) + 1) = ((s + 1 : Nat) : Int) from by unfold wrap64; omega]
    · refine Ev.bind (stepS_val l hl ha s (by omega)) ?_
      refine Ev.bind (clS_val l hl ha s (by omega)) ?_
      rw [dirFrom]
      by_cases h : step (toR l) s = clo (toR l) s
      · refine Ev.congr (fun k => by rw [if_pos (by rw [h])]) ?_
        rw [decide_eq_true h, Bool.true_and]
        exact ih (s + 1) (by omega)
      · refine Ev.congr (fun k => by rw [if_neg (by omega)]) ?_
        rw [decide_eq_false h, Bool.false_and]
        exact Ev.now false
theorem dirI_loop (m : Nat) (hm : m ≤ 6) (l : List IR) (hl : l.length ≤ 9223372036854775807) (ha : l.all anyR = true) : ∀ (d s : Nat), s + d = 2 ^ m → Ev (fun k => impl_IsDirect.l0 k l ((2 ^ m : Nat) : Int) (s : Int)) (dirFrom (toR l) s d) := by
  intro d
  have h6 : 2 ^ m ≤ 2 ^ 6 := Nat.pow_le_pow_right (by decide) hm
  induction d with
  | zero =>
    intro s hs
    refine Ev.step (f := fun _ => some true) (fun k => ?_) (Ev.now _)
    simp only [impl_IsDirect.l0]
    rw [if_neg (by omega)]
  | succ d ih =>
    intro s hs
    refine Ev.step (f := fun k => (impl_OneStep.f k l (s : Int)).bind fun t => (impl_ClosedBy.f k l (s : Int)).bind fun u => if t = u then impl_IsDirect.l0 k l ((2 ^ m : Nat) : Int) ((s + 1 : Nat) : Int) else some false) (fun k => ?_) ?_
    · simp only [impl_IsDirect.l0]
      rw [if_pos (by omega), show wrap64 ((s : Int) + 1) = ((s + 1 : Nat) : Int) from by unfold wrap64; omega]
    · refine Ev.bind (oneI_val l hl _) ?_
      refine Ev.bind (closedI_val l hl _) ?_
      rw [dirFrom, stepV_nat ha (by omega), cloV_nat ha (by omega)]
      by_cases h : step (toR l) s = clo (toR l) s
      · refine Ev.congr (fun k => by rw [if_pos (by rw [h])]) ?_
        rw [decide_eq_true h, Bool.true_and]
        exact ih (s + 1) (by omega)
      · refine Ev.congr (fun k => by rw [if_neg (by omega)]) ?_
        rw [decide_eq_false h, Bool.false_and]
        exact Ev.now false
theorem shl_nat (m : Nat) (hm : m ≤ 6) : shl .i64 1 (m : Int) = ((2 ^ m : Nat) : Int) := by
  have h : m = 0 ∨ m = 1 ∨ m = 2 ∨ m = 3 ∨ m = 4 ∨ m = 5 ∨ m = 6 := by omega
  rcases h with rfl | rfl | rfl | rfl | rfl | rfl | rfl <;> decide +kernel
theorem dirS_val (n : Int) (l : List IR) (hl : l.length ≤ 9223372036854775807) : Ev (fun k => spec_IsDirect.f k n l) (dirV n l) := by
  unfold spec_IsDirect.f dirV
  refine Ev.bind (areS_val n l hl) ?_
  cases h : areV n l with
  | false => exact Ev.congr (fun k => by rw [if_neg (by decide)]; rfl) (Ev.now _)
  | true =>
    obtain ⟨m, rfl, hm, _, ha, _⟩ := areV_nat h
    refine Ev.congr (fun k => by rw [if_pos rfl]) ?_
    rw [Int.toNat_natCast]
    exact dirS_loop m hm l hl ha _ 0 (by omega)
theorem dirI_val (n : Int) (l : List IR) (hl : l.length ≤ 9223372036854775807) : Ev (fun k => impl_IsDirect.f k n l) (dirV n l) := by
  unfold impl_IsDirect.f dirV
  rw [areI_val]
  simp only [Option.bind_some]
  cases h : areV n l with
  | false => exact Ev.congr (fun k => by rw [if_neg (by decide)]; rfl) (Ev.now _)
  | true =>
    obtain ⟨m, rfl, hm, _, ha, _⟩ := areV_nat h
    refine Ev.congr (fun k => by rw [if_pos rfl, if_pos (by omega), shl_nat m hm]) ?_
    rw [Int.toNat_natCast]
    exact dirI_loop m hm l hl ha _ 0 (by omega)
theorem FnExactIsDirect (n : Int) (l : List LR) (_ : (Lit.int .i64 n).wf = true) (hl : l.length ≤ 9223372036854775807) (_ : ∀ x ∈ l, (Lit.int .i64 x.f0).wf = true ∧ (Lit.int .i64 x.f1).wf = true) : ∃ k, laws_FnExactIsDirect.f k n l = some true := by
  apply Ev.rounds
  unfold laws_FnExactIsDirect.f
  obtain ⟨m, hm, hm2⟩ := sz_val l hl
  rw [hm]
  simp only [Option.bind_some]
  by_cases h : m < 0
  · exact Ev.congr (fun k => by rw [if_pos h]) (Ev.now true)
  · have hle := hm2 (by omega)
    have hc : (l.map conv).length ≤ 9223372036854775807 := by rw [List.length_map]; omega
    refine Ev.congr (fun k => by rw [if_neg h]) ?_
    refine Ev.bind (toRule_val l hle) ?_
    refine Ev.bind (dirS_val n _ hc) ?_
    refine Ev.bind (toRule_val l hle) ?_
    refine Ev.bind (dirI_val n _ hc) ?_
    refine Ev.congr (fun k => by rw [if_neg (by simp)]) ?_
    refine Ev.bind (toRule_val l hle) ?_
    refine Ev.bind (eqRule_self _ hc) ?_
    exact Ev.congr (fun k => by rw [if_pos rfl]) (Ev.now true)
end Go.Proofs.Ytjkbmdbecplgiaa.Pu
