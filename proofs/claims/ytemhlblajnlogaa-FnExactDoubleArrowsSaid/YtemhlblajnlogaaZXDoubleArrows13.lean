/- What the law needs of the program's functions as plain functions, of the proofs that their calls answer so, and of plain laws: gathered by a program of this place (pack.py) out of its printed texts. No condition beyond what each statement says. -/
import Derived.Test.YtemhlblajnlogaaZXDoubleArrows5
import Derived.Test.YtemhlblajnlogaaZXDoubleArrows12
import Derived.Test.YtemhlblajnlogaaZXDoubleArrows11
import Derived.Test.YtemhlblajnlogaaZXDoubleArrows7
namespace Go.Proofs.Ytemhlblajnlogaa.Pu
open Go.RowKit Go.Proofs.YtemhlblajnlogaaW.PrintWords Go.Proofs.YtemhlblajnlogaaW.PrintLast Go.Proofs.YtemhlblajnlogaaW.PrintMore Go.Proofs.Ytemhlblajnlogaa.Pr
theorem upI_val (n : Int) (l : List Int) (hl : l.length ≤ 1048576) (g : Int) : Ev (fun _ => impl_UpArrows.f n l g) (upV n l g) := by
  unfold impl_UpArrows.f
  rw [if_pos hl]
  exact Ev.now _
def fitStep (K : List Nat) (s j i : Nat) (b : Bool) : Bool := b && (!upP K j i || s.testBit i)
theorem fold_fit (K : List Nat) (s j : Nat) {m : Nat} : ∀ (d i : Nat) (b : Bool), i + d = m → (foldIdx (fitStep K s j) i m b = true ↔ b = true ∧ ∀ q, i ≤ q → q < m → upP K j q = true → s.testBit q = true) := by
  intro d
  induction d with
  | zero =>
    intro i b h
    rw [foldIdx_end _ (by omega)]
    exact ⟨fun h => ⟨h, fun q h1 h2 => by omega⟩, fun h => h.1⟩
  | succ d ih =>
    intro i b h
    rw [foldIdx_step _ (show i < m by omega), ih (i + 1) _ (by omega)]
    unfold fitStep
    rw [Bool.and_eq_true]
    constructor
    · rintro ⟨⟨h1, h2⟩, h3⟩
      refine ⟨h1, fun q hq hm hp => ?_⟩
      by_cases e : q = i
      · subst e
        rw [hp] at h2
        simpa using h2
      · exact h3 q (by omega) hm hp
    · rintro ⟨h1, h2⟩
      refine ⟨⟨h1, ?_⟩, fun q hq hm hp => h2 q (by omega) hm hp⟩
      cases hp : upP K j i with
      | false => rfl
      | true => rw [h2 i (Nat.le_refl _) (by omega) hp]; rfl
theorem fold_upQ (K : List Nat) (s j m : Nat) : foldIdx (fitStep K s j) 0 m (!s.testBit j) = upQ K s m j := by
  unfold upQ
  rw [Bool.eq_iff_iff, fold_fit K s j m 0 _ (by omega), Bool.and_eq_true, sub_iff]
  refine and_congr_right fun _ => ⟨fun h i hi => ?_, fun h q _ hq hp => h q ?_⟩
  · rw [testBit_ofBits, Bool.and_eq_true, decide_eq_true_iff] at hi
    exact h i (Nat.zero_le _) hi.1 hi.2
  · rw [testBit_ofBits, decide_eq_true hq, hp]; rfl
theorem l8Up_val {m : Nat} (hm : m ≤ 6) {R : List Nat} (hR : R.length ≤ 8) (hb : ∀ r ∈ R, r < 2 ^ m) {g : Nat} (hg : g < R.length) : Ev (fun k => spec_l8Up.f k (m : Int) (cast R) (g : Int)) ((upN m R g : Nat) : Int) := by
  have hrow := fun i => lt_256 (show m ≤ 8 by omega) (row_lt hb i)
  have hcol := fun i => lt_256 hR (col_lt R i)
  unfold spec_l8Up.f
  refine ev_fold (g := fun k (a : Nat) i => spec_l8Up.l0 k (g : Int) (a : Int) i (m : Int) (cast R)) (bitStep (upQ (cols m R) (row R g) m)) (fun _ a => a < 2 ^ m) (N := m) ?_ (fun i a hi h => bitStep_lt hi h) m 0 0 (by omega) (Nat.two_pow_pos _) ?_
  · intro j a hj ha h
    have ha' := lt_256 (show m ≤ 8 by omega) ha
    refine Ev.step (f := fun k => (spec_l3Column.f k (m : Int) (cast R) (j : Int)).bind fun t => spec_l8Up.l1 k (g : Int) (a : Int) (j : Int) t (!(row R g).testBit j) 0 (m : Int) (cast R)) (fun k => ?_) ?_
    · simp only [spec_l8Up.l0]
      rw [if_pos (by omega)]
      simp only [if_pos (show (0 : Int) ≤ (g : Int) by omega), if_pos (show (g : Int) < ((cast R).length : Int) by rw [cast_length]; omega), rd_row, l2Has_val (row R g) j (by have := hrow g; omega) (by omega), Option.bind_some]
    · refine Ev.bind (colS_val R hR hrow _ j (by omega)) ?_
      refine ev_fold (g := fun k (b : Bool) i => spec_l8Up.l1 k (g : Int) (a : Int) (j : Int) ((col R j : Nat) : Int) b i (m : Int) (cast R)) (fitStep (cols m R) (row R g) j) (fun _ _ => True) (N := m) ?_ (fun _ _ _ _ => trivial) m 0 _ (by omega) trivial ?_
      · intro i b hi _ h
        refine Ev.step (f := fun k => (spec_l3Column.f k (m : Int) (cast R) (i : Int)).bind fun t => if b = true then (if t = ((col R j : Nat) : Int) then spec_l8Up.l1 k (g : Int) (a : Int) (j : Int) ((col R j : Nat) : Int) true ((i + 1 : Nat) : Int) (m : Int) (cast R) else if Go.bits .and .i64 t ((col R j : Nat) : Int) = ((col R j : Nat) : Int) then (spec_l2Has.f t (g : Int)).bind fun u => spec_l8Up.l1 k (g : Int) (a : Int) (j : Int) ((col R j : Nat) : Int) u ((i + 1 : Nat) : Int) (m : Int) (cast R) else spec_l8Up.l1 k (g : Int) (a : Int) (j : Int) ((col R j : Nat) : Int) true ((i + 1 : Nat) : Int) (m : Int) (cast R)) else spec_l8Up.l1 k (g : Int) (a : Int) (j : Int) ((col R j : Nat) : Int) false ((i + 1 : Nat) : Int) (m : Int) (cast R)) (fun k => ?_) ?_
        · simp only [spec_l8Up.l1]
          rw [if_pos (by omega), wrap_succ hi (by omega)]
        · refine Ev.bind (colS_val R hR hrow _ i (by omega)) ?_
          cases b with
          | false => exact Ev.congr (fun k => by rw [if_neg (by decide)]; rfl) h
          | true =>
            unfold fitStep upP at h
            rw [row_cols R hi, row_cols R hj, Bool.true_and] at h
            by_cases h1 : col R i = col R j
            · rw [show (!(decide (col R i ≠ col R j) && sub (col R j) (col R i)) || (row R g).testBit i) = true from by rw [decide_eq_false (fun h => h h1)]; rfl] at h
              exact Ev.congr (fun k => by rw [if_pos rfl, if_pos (by rw [h1])]) h
            · rw [decide_eq_true h1, Bool.true_and] at h
              by_cases h2 : sub (col R j) (col R i) = true
              · rw [h2, Bool.not_true, Bool.false_or] at h
                refine Ev.congr (fun k => by rw [if_pos rfl, if_neg (by omega), if_pos ((and_is (hcol j) (hcol i)).2 h2), l2Has_val _ _ (by have := hcol i; omega) (by omega), Option.bind_some, show (col R i).testBit g = (row R g).testBit i from by unfold col; rw [testBit_ofBits, decide_eq_true hg, Bool.true_and]]) h
              · rw [Bool.eq_false_iff.2 h2, Bool.not_false, Bool.true_or] at h
                exact Ev.congr (fun k => by rw [if_pos rfl, if_neg (by omega), if_neg (fun h => h2 ((and_is (hcol j) (hcol i)).1 h))]) h
      · intro b hb' _
        rw [fold_upQ] at hb'
        refine Ev.step (fun k => ?_) h
        simp only [spec_l8Up.l1]
        rw [if_neg (by omega), wrap_succ hj (by omega), wrapU_small _ (by omega) (by omega), or_bit ha' (by omega)]
        unfold bitStep
        rw [← hb']
        by_cases h1 : b = true
        · rw [if_pos h1, if_pos (by omega), if_pos h1]
        · rw [if_neg h1, if_neg h1]
  · intro b hb' _
    refine Ev.step (f := fun _ => some (b : Int)) (fun k => ?_) ?_
    · simp only [spec_l8Up.l0]
      rw [if_neg (by omega)]
    · rw [hb', fold_bits]; exact Ev.now _
theorem upS_val (n : Int) (l : List Int) (hl : l.length ≤ 1048576) (g : Int) : Ev (fun k => spec_UpArrows.f k n l g) (upV n l g) := by
  unfold spec_UpArrows.f upV
  refine Ev.bind (ctxS_val n l (by omega)) ?_
  cases hc : ctxB n l with
  | false =>
    rw [show objB n l g = false from by unfold objB; rw [hc]; rfl]
    exact Ev.congr (fun k => by rw [if_neg (by decide), if_neg (by decide)]) (Ev.now _)
  | true =>
    refine Ev.congr (fun k => by rw [if_pos rfl, l1In_obj hl, Option.bind_some]) ?_
    rw [show decide (0 ≤ g ∧ g < (l.length : Int)) = objB n l g from by unfold objB; rw [hc]; rfl]
    cases h : objB n l g with
    | false => exact Ev.congr (fun k => by rw [if_neg (by decide), if_neg (by decide)]) (Ev.now _)
    | true =>
      obtain ⟨m, R, g', rfl, hm, rfl, hR, hb, rfl, hg, e1, e2, e3⟩ := obj_nat h
      rw [e1, e2, e3, if_pos rfl]
      refine Ev.congr (fun k => by rw [if_pos rfl]) ?_
      exact Ev.bind (l8Up_val hm hR hb hg) (Ev.now _)
def dblV (n : Int) (l : List Int) (g : Int) : Int := Go.bits .and .i64 (downV n l g) (upV n l g)
theorem dblS_val (n : Int) (l : List Int) (hl : l.length ≤ 1048576) (g : Int) : Ev (fun k => spec_DoubleArrows.f k n l g) (dblV n l g) := by
  unfold spec_DoubleArrows.f
  refine Ev.bind (downS_val n l hl g) ?_
  exact Ev.bind (upS_val n l hl g) (Ev.now _)
theorem dblI_val (n : Int) (l : List Int) (hl : l.length ≤ 1048576) (g : Int) : Ev (fun k => impl_DoubleArrows.f k n l g) (dblV n l g) := by
  unfold impl_DoubleArrows.f
  refine Ev.bind (downI_val n l hl g) ?_
  exact Ev.bind (upI_val n l hl g) (Ev.now _)
end Go.Proofs.Ytemhlblajnlogaa.Pu
namespace Go.Proofs.Ytemhlblajnlogaa.Pu
open Go.RowKit Go.Proofs.YtemhlblajnlogaaW.PrintWords Go.Proofs.YtemhlblajnlogaaW.PrintLast Go.Proofs.YtemhlblajnlogaaW.PrintMore Go.Proofs.Ytemhlblajnlogaa.Pr
theorem FnExactDoubleArrows (x0 : S24) (a1 : Int) (_ : (Lit.int .i64 x0.f0).wf = true ∧ ∀ x ∈ x0.f1, (Lit.int .i64 x).wf = true) (hl : x0.f1.length ≤ 9223372036854775807) (_ : (Lit.int .i64 a1).wf = true) : ∃ k, laws_FnExactDoubleArrows.f k x0.f0 x0.f1 a1 = some true := by
  apply Ev.rounds
  unfold laws_FnExactDoubleArrows.f
  obtain ⟨m, hm, hm2⟩ := szC_val x0.f0 x0.f1 hl
  rw [hm]
  simp only [Option.bind_some]
  by_cases h : m < 0
  · exact Ev.congr (fun k => by rw [if_pos h]) (Ev.now true)
  · have hle := hm2 (by omega)
    refine Ev.congr (fun k => by rw [if_neg h]) ?_
    refine Ev.bind (toC_val _ _ hle) ?_
    refine Ev.bind (dblS_val _ _ hle a1) ?_
    refine Ev.bind (toC_val _ _ hle) ?_
    refine Ev.bind (dblI_val _ _ hle a1) ?_
    refine Ev.congr (fun k => by first | rw [if_pos rfl] | rw [if_neg (by simp)]) ?_
    refine Ev.bind (toC_val _ _ hle) ?_
    refine Ev.bind (eqC_self _ _ hl) ?_
    exact Ev.congr (fun k => by rw [if_pos rfl]) (Ev.now true)
end Go.Proofs.Ytemhlblajnlogaa.Pu
