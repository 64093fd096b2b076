/- What the tests on contexts answer, and the common part of the sets beyond one. No condition beyond what each statement says. -/
import Derived.Test.YtemhlblajnlogaaPr1
import Derived.Test.YtemhlblajnlogaaPr18
import Derived.Test.YtemhlblajnlogaaPr2
import Derived.Test.YtemhlblajnlogaaPr3
import Derived.Test.YtemhlblajnlogaaGIsContext
import Derived.Test.YtemhlblajnlogaaPuLoop
import Derived.Test.YtemhlblajnlogaaPuCtx
import Derived.Test.YtemhlblajnlogaaPuFull
namespace Go.Proofs.Ytemhlblajnlogaa.Pu
open Go.RowKit Go.Proofs.YtemhlblajnlogaaW.PrintWords Go.Proofs.YtemhlblajnlogaaW.PrintLast Go.Proofs.YtemhlblajnlogaaW.PrintMore Go.Proofs.Ytemhlblajnlogaa.Pr

def ctxB (n : Int) (l : List Int) : Bool := decide (0 ≤ n ∧ n ≤ 6) && decide ((l.length : Int) ≤ 8) && l.all (isSetB n)
theorem ctxI_val (n : Int) (l : List Int) : impl_IsContext.f n l = some (ctxB n l) := rfl
theorem ctxS_loop (n : Int) (l : List Int) (hl : l.length ≤ 9223372036854775807) : ∀ (rest : List Int) (i : Nat), l.drop i = rest → Ev (fun k => spec_IsContext.l0 k (i : Int) n l) (decide (0 ≤ n ∧ n ≤ 6) && decide ((l.length : Int) ≤ 8) && rest.all (isSetB n)) := by
  intro rest
  induction rest with
  | nil =>
    intro i h
    have := drop_nil h
    refine Ev.step (f := fun _ => some (decide (0 ≤ n ∧ n ≤ 6) && decide ((l.length : Int) ≤ 8))) (fun k => ?_) ?_
    · simp only [spec_IsContext.l0]
      rw [if_neg (by omega), l1In_val, Option.bind_some]
      by_cases h6 : 0 ≤ n ∧ n ≤ 6
      · rw [decide_eq_true h6]; rfl
      · rw [decide_eq_false h6]; rfl
    · rw [List.all_nil, Bool.and_true]; exact Ev.now _
  | cons x rest ih =>
    intro i h
    obtain ⟨hi, hx, hd⟩ := drop_cons (d := 0) h
    cases hq : isSetB n x with
    | true =>
      refine Ev.step (f := fun k => spec_IsContext.l0 k ((i + 1 : Nat) : Int) n l) (fun k => ?_) ?_
      · simp only [spec_IsContext.l0]
        rw [if_pos (by omega), if_pos (by omega), rd_nat, hx, specSet_val, Option.bind_some, hq, if_pos rfl, wrap_succ hi hl]
      · rw [List.all_cons, hq, Bool.true_and]; exact ih (i + 1) hd
    | false =>
      refine Ev.step (f := fun _ => some false) (fun k => ?_) ?_
      · simp only [spec_IsContext.l0]
        rw [if_pos (by omega), if_pos (by omega), rd_nat, hx, specSet_val, Option.bind_some, hq, if_neg (by decide)]
      · rw [List.all_cons, hq, Bool.false_and, Bool.and_false]; exact Ev.now _
theorem ctxS_val (n : Int) (l : List Int) (hl : l.length ≤ 9223372036854775807) : Ev (fun k => spec_IsContext.f k n l) (ctxB n l) := ctxS_loop n l hl l 0 rfl
theorem row_lt {R : List Nat} {q : Nat} (h : ∀ r ∈ R, r < 2 ^ q) (i : Nat) : row R i < 2 ^ q := by
  unfold row
  rw [List.getD_eq_getElem?_getD]
  cases h' : R[i]? with
  | none => exact Nat.two_pow_pos q
  | some x => exact h x (List.mem_of_getElem? h')
theorem ctxB_nat {n : Int} {l : List Int} (h : ctxB n l = true) : ∃ (m : Nat) (R : List Nat), n = (m : Int) ∧ m ≤ 6 ∧ l = cast R ∧ R.length ≤ 8 ∧ ∀ r ∈ R, r < 2 ^ m := by
  unfold ctxB at h
  rw [Bool.and_eq_true, Bool.and_eq_true, decide_eq_true_iff, decide_eq_true_iff, List.all_eq_true] at h
  obtain ⟨⟨h1, h2⟩, h3⟩ := h
  have hx : ∀ x ∈ l, 0 ≤ x ∧ x.toNat < 2 ^ n.toNat := by
    intro x hx
    obtain ⟨m, a, hm, e1, ha, e2⟩ := isSetB_nat (h3 x hx)
    subst e2
    refine ⟨by omega, ?_⟩
    rw [e1, Int.toNat_natCast, Int.toNat_natCast]
    exact ha
  refine ⟨n.toNat, l.map Int.toNat, by omega, by omega, cast_of fun x h => (hx x h).1, by rw [List.length_map]; omega, fun r hr => ?_⟩
  obtain ⟨x, hx', rfl⟩ := List.mem_map.1 hr
  exact (hx x hx').2
theorem rd_row (R : List Nat) (i : Nat) : rd (cast R) (i : Int) = ((row R i : Nat) : Int) := rd_cast R i
theorem inS_val {a b : Nat} (ha : a < 256) (hb : b < 256) : impl_inSet.f (a : Int) (b : Int) = some (sub a b) := by
  unfold impl_inSet.f
  refine congrArg some ?_
  rw [Bool.eq_iff_iff, beq_iff_eq]
  exact andNot_is ha hb
theorem fullI_val (n : Int) : impl_FullSet.f n = some (fullV n) := by
  unfold impl_FullSet.f fullV
  rw [within_val, Option.bind_some]
  by_cases h : 0 ≤ n ∧ n ≤ 8
  · rw [if_pos h, if_pos (decide_eq_true h), if_pos h.1, upper_val n h.1 h.2]
  · rw [if_neg h, if_neg (by simpa using h)]
theorem fullN {m : Nat} (h : m ≤ 8) : fullV (m : Int) = ((full m : Nat) : Int) := fullV_nat h
theorem objI_val (n : Int) (l : List Int) (hl : l.length ≤ 1048576) (g : Int) : impl_isObject.f n l g = some (ctxB n l && decide (0 ≤ g ∧ g < (l.length : Int))) := by
  unfold impl_isObject.f
  rw [ctxI_val, Option.bind_some]
  cases ctxB n l with
  | false => rfl
  | true =>
    rw [if_pos rfl, within_val, Option.bind_some, Bool.true_and, show wrap64 ((l.length : Int) - 1) = (l.length : Int) - 1 from by unfold wrap64; omega]
    refine congrArg some ?_
    rw [decide_eq_decide]
    omega
/-- a set of a list that is another one and has all of s takes part -/
def byStep (L : List Nat) (s i f : Nat) : Nat := if row L i ≠ s ∧ sub s (row L i) = true then f &&& row L i else f
def bey (L : List Nat) (s f : Nat) : Nat := foldIdx (byStep L s) 0 L.length f
theorem byStep_le (L : List Nat) (s i f : Nat) : byStep L s i f ≤ f := by
  unfold byStep
  split
  · exact Nat.and_le_left
  · exact Nat.le_refl _
theorem bey_le (L : List Nat) (s f : Nat) : bey L s f ≤ f := fold_inv (byStep L s) (fun _ a => a ≤ f) (fun i a _ h => Nat.le_trans (byStep_le L s i a) h) L.length 0 f (by omega) (Nat.le_refl _)
theorem beyI_val (L : List Nat) (hl : L.length ≤ 8) (hL : ∀ i, row L i < 256) (s f : Nat) (hs : s < 256) (hf : f < 256) : Ev (fun k => impl_beyond.f k (cast L) (s : Int) (f : Int)) ((bey L s f : Nat) : Int) := by
  unfold impl_beyond.f
  refine ev_fold (g := fun k (a : Nat) i => impl_beyond.l0 k (s : Int) (a : Int) (cast L) ((cast L).length : Int) i) (byStep L s) (fun _ a => a < 256) (N := L.length) ?_ (fun i a _ h => Nat.lt_of_le_of_lt (byStep_le L s i a) h) L.length 0 f (by omega) hf ?_
  · intro i a hi ha h
    refine Ev.step (fun k => ?_) h
    simp only [impl_beyond.l0]
    rw [if_pos (by rw [cast_length]; omega), if_pos (by omega), if_pos (by rw [cast_length]; omega), rd_row, wrap_succ hi (by omega)]
    unfold byStep
    by_cases h1 : row L i = s
    · rw [if_pos (by rw [h1]), if_neg (fun h => h.1 h1)]
    · rw [if_neg (by omega), inS_val hs (hL i), Option.bind_some]
      by_cases h2 : sub s (row L i) = true
      · rw [if_pos h2, if_pos ⟨h1, h2⟩, and_nat (by omega) (by have := hL i; omega)]
      · rw [if_neg h2, if_neg (fun h => h2 h.2)]
  · intro b hb _
    refine Ev.step (f := fun _ => some (b : Int)) (fun k => ?_) ?_
    · simp only [impl_beyond.l0]
      rw [if_neg (by rw [cast_length]; omega)]
    · rw [hb]; exact Ev.now _
def redObjV (n : Int) (l : List Int) (g : Int) : Bool := ctxB n l && decide (0 ≤ g ∧ g < (l.length : Int)) && decide (bey (l.map Int.toNat) (row (l.map Int.toNat) g.toNat) (full n.toNat) = row (l.map Int.toNat) g.toNat)
theorem uncast (R : List Nat) : (cast R).map Int.toNat = R := by
  unfold cast
  rw [List.map_map]
  conv => rhs; rw [← List.map_id R]
  exact List.map_congr_left fun x _ => by simp
theorem redObj_nat {m : Nat} {R : List Nat} (h : ctxB (m : Int) (cast R) = true) {g : Nat} (hg : g < R.length) : redObjV (m : Int) (cast R) (g : Int) = decide (bey R (row R g) (full m) = row R g) := by
  unfold redObjV
  rw [h, uncast, Int.toNat_natCast, Int.toNat_natCast, cast_length, decide_eq_true (show 0 ≤ (g : Int) ∧ (g : Int) < (R.length : Int) by omega)]
  simp
theorem full_256 {m : Nat} (h : m ≤ 8) : full m < 256 := lt_256 h (full_lt m)
theorem redObjI_val (n : Int) (l : List Int) (hl : l.length ≤ 1048576) (g : Int) : Ev (fun k => impl_IsReducibleObject.f k n l g) (redObjV n l g) := by
  unfold impl_IsReducibleObject.f
  rw [objI_val n l hl g]
  simp only [Option.bind_some]
  cases h : ctxB n l && decide (0 ≤ g ∧ g < (l.length : Int)) with
  | false =>
    unfold redObjV
    rw [h, Bool.false_and]
    exact Ev.congr (fun k => by rw [if_neg (by decide)]) (Ev.now _)
  | true =>
    rw [Bool.and_eq_true, decide_eq_true_iff] at h
    obtain ⟨hc, h0, h1⟩ := h
    obtain ⟨m, R, rfl, hm, rfl, hR, hb⟩ := ctxB_nat hc
    obtain ⟨g', rfl⟩ : ∃ g' : Nat, g = (g' : Int) := ⟨g.toNat, by omega⟩
    rw [cast_length] at h1
    have hrow := fun i => lt_256 (show m ≤ 8 by omega) (row_lt hb i)
    rw [redObj_nat hc (by omega)]
    refine Ev.congr (fun k => by rw [if_pos rfl, if_pos h0, if_pos (by rw [cast_length]; exact h1), fullI_val, Option.bind_some, fullN (by omega), rd_row]) ?_
    refine Ev.bind (beyI_val R hR hrow _ _ (hrow g') (full_256 (by omega))) ?_
    refine Ev.congr (fun k => ?_) (Ev.now _)
    refine congrArg some ?_
    rw [Bool.eq_iff_iff, beq_iff_eq, decide_eq_true_iff]
    omega
theorem redObjS_val (n : Int) (l : List Int) (hl : l.length ≤ 1048576) (g : Int) : Ev (fun k => spec_IsReducibleObject.f k n l g) (redObjV n l g) := by
  unfold spec_IsReducibleObject.f
  refine Ev.bind (ctxS_val n l (by omega)) ?_
  cases hc : ctxB n l with
  | false =>
    unfold redObjV
    rw [hc, Bool.false_and, Bool.false_and]
    refine Ev.congr (fun k => by rw [if_neg (by decide)]) ?_
    refine Ev.step (f := fun _ => some false) (fun k => ?_) (Ev.now _)
    simp only [spec_IsReducibleObject.j0]
    rw [if_true]
  | true =>
    refine Ev.congr (fun k => by rw [if_pos rfl, l1In_val, Option.bind_some, show wrap64 ((l.length : Int) - 1) = (l.length : Int) - 1 from by unfold wrap64; omega]) ?_
    by_cases hg : 0 ≤ g ∧ g < (l.length : Int)
    · rw [decide_eq_true (show 0 ≤ g ∧ g ≤ (l.length : Int) - 1 by omega)]
      obtain ⟨m, R, rfl, hm, rfl, hR, hb⟩ := ctxB_nat hc
      obtain ⟨g', rfl⟩ : ∃ g' : Nat, g = (g' : Int) := ⟨g.toNat, by omega⟩
      have h1 := hg.2
      rw [cast_length] at h1
      have hrow := fun i => lt_256 (show m ≤ 8 by omega) (row_lt hb i)
      rw [redObj_nat hc (by omega)]
      refine Ev.step (f := fun k => spec_IsReducibleObject.l0 k (g' : Int) ((full m : Nat) : Int) ((0 : Nat) : Int) (m : Int) (cast R)) (fun k => ?_) ?_
      · simp only [spec_IsReducibleObject.j0]
        rw [if_neg (by decide), fullS_val, Option.bind_some, fullN (by omega)]
        rfl
      · refine ev_fold (g := fun k (a : Nat) i => spec_IsReducibleObject.l0 k (g' : Int) (a : Int) i (m : Int) (cast R)) (byStep R (row R g')) (fun _ a => a < 256) (N := R.length) ?_ (fun i a _ h => Nat.lt_of_le_of_lt (byStep_le R _ i a) h) R.length 0 (full m) (by omega) (full_256 (by omega)) ?_
        · intro i a hi ha h
          refine Ev.step (fun k => ?_) h
          simp only [spec_IsReducibleObject.l0]
          rw [if_pos (by rw [cast_length]; omega), if_pos (by omega), if_pos (by omega), if_pos (by rw [cast_length]; omega), rd_row, rd_row, wrap_succ hi (by omega)]
          unfold byStep
          by_cases h1 : row R i = row R g'
          · rw [if_pos (by rw [h1]), if_neg (fun h => h.1 h1)]
          · rw [if_neg (by omega)]
            by_cases h2 : sub (row R g') (row R i) = true
            · rw [if_pos ((and_is (hrow g') (hrow i)).2 h2), if_pos ⟨h1, h2⟩, and_nat (by omega) (by have := hrow i; omega)]
            · rw [if_neg (fun h => h2 ((and_is (hrow g') (hrow i)).1 h)), if_neg (fun h => h2 h.2)]
        · intro b hb' _
          refine Ev.step (f := fun _ => some (decide (bey R (row R g') (full m) = row R g'))) (fun k => ?_) (Ev.now _)
          simp only [spec_IsReducibleObject.l0]
          rw [if_neg (by rw [cast_length]; omega), if_pos (by omega), if_pos (by rw [cast_length]; omega), rd_row, hb']
          refine congrArg some ?_
          rw [Bool.eq_iff_iff, beq_iff_eq, decide_eq_true_iff]
          exact Int.natCast_inj
    · rw [decide_eq_false (show ¬ (0 ≤ g ∧ g ≤ (l.length : Int) - 1) by omega)]
      unfold redObjV
      rw [hc, decide_eq_false hg, Bool.and_false, Bool.false_and]
      refine Ev.step (f := fun _ => some false) (fun k => ?_) (Ev.now _)
      simp only [spec_IsReducibleObject.j0, Bool.not_false]
      rw [if_true]
end Go.Proofs.Ytemhlblajnlogaa.Pu
