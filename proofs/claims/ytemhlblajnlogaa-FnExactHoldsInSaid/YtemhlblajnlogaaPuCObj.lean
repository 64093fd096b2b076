/- Irreducible objects and down arrows, of the reference and of the program. No condition beyond the length's bound. -/
import Derived.Test.YtemhlblajnlogaaPr18
import Derived.Test.YtemhlblajnlogaaPr19
import Derived.Test.YtemhlblajnlogaaPr4
import Derived.Test.YtemhlblajnlogaaPuCVal
namespace Go.Proofs.Ytemhlblajnlogaa.Pu
open Go.RowKit Go.Proofs.YtemhlblajnlogaaW.PrintWords Go.Proofs.YtemhlblajnlogaaW.PrintLast Go.Proofs.YtemhlblajnlogaaW.PrintMore Go.Proofs.Ytemhlblajnlogaa.Pr

def objB (n : Int) (l : List Int) (g : Int) : Bool := ctxB n l && decide (0 ≤ g ∧ g < (l.length : Int))
theorem l1In_obj {l : List Int} (hl : l.length ≤ 1048576) (g : Int) : spec_l1In.f g 0 (wrap64 ((l.length : Int) - 1)) = some (decide (0 ≤ g ∧ g < (l.length : Int))) := by
  rw [l1In_val, show wrap64 ((l.length : Int) - 1) = (l.length : Int) - 1 from by unfold wrap64; omega]
  refine congrArg some ?_
  rw [decide_eq_decide]
  omega
def irrObjV (n : Int) (l : List Int) (g : Int) : Bool := objB n l g && !redObjV n l g
theorem irrObjI_val (n : Int) (l : List Int) (hl : l.length ≤ 1048576) (g : Int) : Ev (fun k => impl_IsIrreducibleObject.f k n l g) (irrObjV n l g) := by
  unfold impl_IsIrreducibleObject.f irrObjV objB
  rw [objI_val n l hl g]
  simp only [Option.bind_some]
  cases ctxB n l && decide (0 ≤ g ∧ g < (l.length : Int)) with
  | false => exact Ev.congr (fun k => by rw [if_neg (by decide), Bool.false_and]) (Ev.now _)
  | true =>
    refine Ev.congr (fun k => by rw [if_pos rfl]) ?_
    exact Ev.bind (redObjI_val n l hl g) (Ev.now _)
theorem irrObjS_val (n : Int) (l : List Int) (hl : l.length ≤ 1048576) (g : Int) : Ev (fun k => spec_IsIrreducibleObject.f k n l g) (irrObjV n l g) := by
  unfold spec_IsIrreducibleObject.f irrObjV objB
  refine Ev.bind (ctxS_val n l (by omega)) ?_
  cases ctxB n l with
  | false => exact Ev.congr (fun k => by rw [if_neg (by decide), Bool.false_and, Bool.false_and]) (Ev.now _)
  | true =>
    refine Ev.congr (fun k => by rw [if_pos rfl, l1In_obj hl, Option.bind_some]) ?_
    rw [Bool.true_and]
    cases decide (0 ≤ g ∧ g < (l.length : Int)) with
    | false => exact Ev.congr (fun k => by rw [if_neg (by decide), Bool.false_and]) (Ev.now _)
    | true =>
      refine Ev.congr (fun k => by rw [if_pos rfl]) ?_
      exact Ev.bind (redObjS_val n l hl g) (Ev.now _)
theorem fold_comm {α : Type} (f : Nat → α → α) (h : α → α) (hc : ∀ i a, f i (h a) = h (f i a)) {N : Nat} : ∀ (d i : Nat) (a : α), i + d = N → foldIdx f i N (h a) = h (foldIdx f i N a) := by
  intro d
  induction d with
  | zero => intro i a h'; rw [foldIdx_end f (by omega), foldIdx_end f (by omega)]
  | succ d ih =>
    intro i a h'
    have hi : i < N := by omega
    rw [foldIdx_step f hi (h a), foldIdx_step f hi a, hc]
    exact ih (i + 1) _ (by omega)
theorem diff_and (a b t : Nat) : diff a b &&& t = diff (a &&& t) b := by
  apply Nat.eq_of_testBit_eq
  intro i
  rw [Nat.testBit_and, testBit_diff, testBit_diff, Nat.testBit_and]
  cases a.testBit i <;> cases b.testBit i <;> cases t.testBit i <;> rfl
theorem bey_diff (L : List Nat) (s f r : Nat) : bey L s (diff f r) = diff (bey L s f) r := by
  refine fold_comm (byStep L s) (fun a => diff a r) (fun i a => ?_) L.length 0 f (by omega)
  unfold byStep
  by_cases h : row L i ≠ s ∧ sub s (row L i) = true
  · rw [if_pos h, if_pos h, diff_and]
  · rw [if_neg h, if_neg h]
theorem full_sub_row {m r : Nat} (h : r < 2 ^ m) : full m - r = diff (full m) r := by
  rw [diff_eq_sub]
  have : full m &&& r = r := by
    have := sub_full h
    unfold sub at this
    rw [Nat.and_comm]
    exact eq_of_beq this
  rw [this]
def downN (m : Nat) (R : List Nat) (g : Nat) : Nat := diff (bey R (row R g) (full m)) (row R g)
theorem downN_lt (m : Nat) (R : List Nat) (g : Nat) : downN m R g < 2 ^ m := Nat.lt_of_le_of_lt (diff_le _ _) (Nat.lt_of_le_of_lt (bey_le _ _ _) (full_lt m))
def downV (n : Int) (l : List Int) (g : Int) : Int := if objB n l g = true then ((downN n.toNat (l.map Int.toNat) g.toNat : Nat) : Int) else 0
theorem obj_nat {n : Int} {l : List Int} {g : Int} (h : objB n l g = true) : ∃ (m : Nat) (R : List Nat) (g' : Nat), n = (m : Int) ∧ m ≤ 6 ∧ l = cast R ∧ R.length ≤ 8 ∧ (∀ r ∈ R, r < 2 ^ m) ∧ g = (g' : Int) ∧ g' < R.length ∧ n.toNat = m ∧ l.map Int.toNat = R ∧ g.toNat = g' := by
  unfold objB at h
  rw [Bool.and_eq_true, decide_eq_true_iff] at h
  obtain ⟨hc, h0, h1⟩ := h
  obtain ⟨m, R, rfl, hm, rfl, hR, hb⟩ := ctxB_nat hc
  rw [cast_length] at h1
  exact ⟨m, R, g.toNat, rfl, hm, rfl, hR, hb, by omega, by omega, Int.toNat_natCast m, uncast R, rfl⟩
theorem downI_val (n : Int) (l : List Int) (hl : l.length ≤ 1048576) (g : Int) : Ev (fun k => impl_DownArrows.f k n l g) (downV n l g) := by
  unfold impl_DownArrows.f downV
  rw [objI_val n l hl g]
  simp only [Option.bind_some]
  rw [show (ctxB n l && decide (0 ≤ g ∧ g < (l.length : Int))) = objB n l g from rfl]
  cases h : objB n l g with
  | false => exact Ev.congr (fun k => by rw [if_neg (by decide), if_neg (by decide)]) (Ev.now _)
  | true =>
    obtain ⟨m, R, g', rfl, hm, rfl, hR, hb, rfl, hg, e1, e2, e3⟩ := obj_nat h
    rw [e1, e2, e3, if_pos rfl]
    have hrow := fun i => lt_256 (show m ≤ 8 by omega) (row_lt hb i)
    refine Ev.congr (fun k => by rw [if_pos rfl, if_pos (by omega), if_pos (by rw [cast_length]; omega), fullI_val, Option.bind_some, fullN (by omega), rd_row]) ?_
    refine Ev.bind (beyI_val R hR hrow _ _ (hrow g') (full_256 (by omega))) ?_
    refine Ev.congr (fun k => ?_) (Ev.now _)
    have h1 := bey_le R (row R g') (full m)
    have h2 := full_256 (show m ≤ 8 by omega)
    have h3 := hrow g'
    rw [andNot_nat (by omega) (by omega)]
    rfl
theorem l8Down_val (m : Nat) (hm : m ≤ 6) (R : List Nat) (hR : R.length ≤ 8) (hb : ∀ r ∈ R, r < 2 ^ m) (g : Nat) (hg : g < R.length) : Ev (fun k => spec_l8Down.f k (m : Int) (cast R) (g : Int)) ((downN m R g : Nat) : Int) := by
  unfold spec_l8Down.f
  have hrow := fun i => lt_256 (show m ≤ 8 by omega) (row_lt hb i)
  have h1 := row_lt hb g
  have h2 : full m < 2 ^ m := full_lt m
  have h3 : row R g ≤ full m := by unfold full; omega
  have h4 := full_256 (show m ≤ 8 by omega)
  refine Ev.congr (fun k => by rw [fullS_val, Option.bind_some, fullN (by omega), if_pos (by omega), if_pos (by rw [cast_length]; omega), rd_row, show wrap64 (((full m : Nat) : Int) - ((row R g : Nat) : Int)) = ((full m - row R g : Nat) : Int) from by unfold wrap64; omega, full_sub_row h1]) ?_
  refine ev_fold (g := fun k (a : Nat) i => spec_l8Down.l0 k (g : Int) (a : Int) i (m : Int) (cast R)) (byStep R (row R g)) (fun _ a => a < 256) (N := R.length) ?_ (fun i a _ h => Nat.lt_of_le_of_lt (byStep_le R _ i a) h) R.length 0 (diff (full m) (row R g)) (by omega) (Nat.lt_of_le_of_lt (diff_le _ _) h4) ?_
  · intro i a hi ha h
    refine Ev.step (fun k => ?_) h
    simp only [spec_l8Down.l0]
    rw [if_pos (by rw [cast_length]; omega), if_pos (by omega), if_pos (by omega), if_pos (by rw [cast_length]; omega), rd_row, rd_row, wrap_succ hi (by omega)]
    unfold byStep
    by_cases h1 : row R i = row R g
    · rw [if_pos (by rw [h1]), if_neg (fun h => h.1 h1)]
    · rw [if_neg (by omega)]
      by_cases h2 : sub (row R g) (row R i) = true
      · rw [if_pos ((and_is (hrow g) (hrow i)).2 h2), if_pos ⟨h1, h2⟩, and_nat (by omega) (by have := hrow i; omega)]
      · rw [if_neg (fun h => h2 ((and_is (hrow g) (hrow i)).1 h)), if_neg (fun h => h2 h.2)]
  · intro b hb' _
    refine Ev.step (f := fun _ => some (b : Int)) (fun k => ?_) ?_
    · simp only [spec_l8Down.l0]
      rw [if_neg (by rw [cast_length]; omega)]
    · rw [hb', show foldIdx (byStep R (row R g)) 0 R.length (diff (full m) (row R g)) = downN m R g from bey_diff R _ _ _]; exact Ev.now _
theorem downS_val (n : Int) (l : List Int) (hl : l.length ≤ 1048576) (g : Int) : Ev (fun k => spec_DownArrows.f k n l g) (downV n l g) := by
  unfold spec_DownArrows.f downV
  refine Ev.bind (ctxS_val n l (by omega)) ?_
  cases hc : ctxB n l with
  | false =>
    rw [show objB n l g = false from by unfold objB; rw [hc]; rfl]
    exact Ev.congr (fun k => by rw [if_neg (by decide), if_neg (by decide)]) (Ev.now _)
  | true =>
    refine Ev.congr (fun k => by rw [if_pos rfl, l1In_obj hl, Option.bind_some]) ?_
    rw [show decide (0 ≤ g ∧ g < (l.length : Int)) = objB n l g from by unfold objB; rw [hc]; rfl]
    cases h : objB n l g with
    | false => exact Ev.congr (fun k => by rw [if_neg (by decide), if_neg (by decide)]) (Ev.now _)
    | true =>
      obtain ⟨m, R, g', rfl, hm, rfl, hR, hb, rfl, hg, e1, e2, e3⟩ := obj_nat h
      rw [e1, e2, e3, if_pos rfl]
      refine Ev.congr (fun k => by rw [if_pos rfl]) ?_
      exact Ev.bind (l8Down_val m hm R hR hb g' hg) (Ev.now _)
end Go.Proofs.Ytemhlblajnlogaa.Pu
