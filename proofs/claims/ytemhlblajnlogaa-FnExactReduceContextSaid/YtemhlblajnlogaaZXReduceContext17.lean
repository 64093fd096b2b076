/- What the law needs of the program's functions as plain functions, of the proofs that their calls answer so, and of plain laws: gathered by a program of this place (pack.py) out of its printed texts. No condition beyond what each statement says. -/
import Derived.Test.YtemhlblajnlogaaZXReduceContext3
import Derived.Test.YtemhlblajnlogaaZXReduceContext13
import Derived.Test.YtemhlblajnlogaaZXReduceContext12
import Derived.Test.YtemhlblajnlogaaZXReduceContext11
import Derived.Test.YtemhlblajnlogaaZXReduceContext15
import Derived.Test.YtemhlblajnlogaaZXReduceContext16
import Derived.Test.YtemhlblajnlogaaZXReduceContext7
import Derived.Test.YtemhlblajnlogaaZXReduceContext6
import Derived.Test.YtemhlblajnlogaaZXReduceContext2
import Derived.Test.YtemhlblajnlogaaZXReduceContext4
import Derived.Test.YtemhlblajnlogaaZXReduceContext5
namespace Go.Proofs.Ytemhlblajnlogaa.Pu
open Go.RowKit Go.Proofs.YtemhlblajnlogaaW.PrintWords Go.Proofs.YtemhlblajnlogaaW.PrintLast Go.Proofs.YtemhlblajnlogaaW.PrintMore Go.Proofs.Ytemhlblajnlogaa.Pr
def ctxB (n : Int) (l : List Int) : Bool := decide (0 ≤ n ∧ n ≤ 6) && decide ((l.length : Int) ≤ 8) && l.all (isSetB n)
theorem ctxI_val (n : Int) (l : List Int) : impl_IsContext.f n l = some (ctxB n l) := rfl
theorem ctxS_loop (n : Int) (l : List Int) (hl : l.length ≤ 9223372036854775807) : ∀ (rest : List Int) (i : Nat), l.drop i = rest → Ev (fun k => spec_IsContext.l0 k (i : Int) n l) (decide (0 ≤ n ∧ n ≤ 6) && decide ((l.length : Int) ≤ 8) && rest.all (isSetB n)) := by
  intro rest
  induction rest with
  | nil =>
    intro i h
    have := drop_nil h
    refine Ev.step (f := fun _ => some (decide (0 ≤ n ∧ n ≤ 6) && decide ((l.length : Int) ≤ 8))) (fun k => ?_) ?_
    · simp only [spec_IsContext.l0]
      rw [if_neg (by omega), l1In_val, Option.bind_some]
      by_cases h6 : 0 ≤ n ∧ n ≤ 6
      · rw [decide_eq_true h6]; rfl
      · rw [decide_eq_false h6]; rfl
    · rw [List.all_nil, Bool.and_true]; exact Ev.now _
  | cons x rest ih =>
    intro i h
    obtain ⟨hi, hx, hd⟩ := drop_cons (d := 0) h
    cases hq : isSetB n x with
    | true =>
      refine Ev.step (f := fun k => spec_IsContext.l0 k ((i + 1 : Nat) : Int) n l) (fun k => ?_) ?_
      · simp only [spec_IsContext.l0]
        rw [if_pos (by omega), if_pos (by omega), rd_nat, hx, specSet_val, Option.bind_some, hq, if_pos rfl, wrap_succ hi hl]
      · rw [List.all_cons, hq, Bool.true_and]; exact ih (i + 1) hd
    | false =>
      refine Ev.step (f := fun _ => some false) (fun k => ?_) ?_
      · simp only [spec_IsContext.l0]
        rw [if_pos (by omega), if_pos (by omega), rd_nat, hx, specSet_val, Option.bind_some, hq, if_neg (by decide)]
      · rw [List.all_cons, hq, Bool.false_and, Bool.and_false]; exact Ev.now _
theorem ctxS_val (n : Int) (l : List Int) (hl : l.length ≤ 9223372036854775807) : Ev (fun k => spec_IsContext.f k n l) (ctxB n l) := ctxS_loop n l hl l 0 rfl
theorem row_lt {R : List Nat} {q : Nat} (h : ∀ r ∈ R, r < 2 ^ q) (i : Nat) : row R i < 2 ^ q := by
  unfold row
  rw [List.getD_eq_getElem?_getD]
  cases h' : R[i]? with
  | none => exact Nat.two_pow_pos q
  | some x => exact h x (List.mem_of_getElem? h')
theorem ctxB_nat {n : Int} {l : List Int} (h : ctxB n l = true) : ∃ (m : Nat) (R : List Nat), n = (m : Int) ∧ m ≤ 6 ∧ l = cast R ∧ R.length ≤ 8 ∧ ∀ r ∈ R, r < 2 ^ m := by
  unfold ctxB at h
  rw [Bool.and_eq_true, Bool.and_eq_true, decide_eq_true_iff, decide_eq_true_iff, List.all_eq_true] at h
  obtain ⟨⟨h1, h2⟩, h3⟩ := h
  have hx : ∀ x ∈ l, 0 ≤ x ∧ x.toNat < 2 ^ n.toNat := by
    intro x hx
    obtain ⟨m, a, hm, e1, ha, e2⟩ := isSetB_nat (h3 x hx)
    subst e2
    refine ⟨by omega, ?_⟩
    rw [e1, Int.toNat_natCast, Int.toNat_natCast]
    exact ha
  refine ⟨n.toNat, l.map Int.toNat, by omega, by omega, cast_of fun x h => (hx x h).1, by rw [List.length_map]; omega, fun r hr => ?_⟩
  obtain ⟨x, hx', rfl⟩ := List.mem_map.1 hr
  exact (hx x hx').2
theorem rd_row (R : List Nat) (i : Nat) : rd (cast R) (i : Int) = ((row R i : Nat) : Int) := rd_cast R i
theorem inS_val {a b : Nat} (ha : a < 256) (hb : b < 256) : impl_inSet.f (a : Int) (b : Int) = some (sub a b) := by
  unfold impl_inSet.f
  refine congrArg some ?_
  rw [Bool.eq_iff_iff, beq_iff_eq]
  exact andNot_is ha hb
theorem fullI_val (n : Int) : impl_FullSet.f n = some (fullV n) := by
  unfold impl_FullSet.f fullV
  rw [within_val, Option.bind_some]
  by_cases h : 0 ≤ n ∧ n ≤ 8
  · rw [if_pos h, if_pos (decide_eq_true h), if_pos h.1, upper_val n h.1 h.2]
  · rw [if_neg h, if_neg (by simpa using h)]
theorem fullN {m : Nat} (h : m ≤ 8) : fullV (m : Int) = ((full m : Nat) : Int) := fullV_nat h
theorem uncast (R : List Nat) : (cast R).map Int.toNat = R := by
  unfold cast
  rw [List.map_map]
  conv => rhs; rw [← List.map_id R]
  exact List.map_congr_left fun x _ => by simp
theorem full_256 {m : Nat} (h : m ≤ 8) : full m < 256 := lt_256 h (full_lt m)
theorem ctxB_mk {m : Nat} (hm : m ≤ 6) {R : List Nat} (hR : R.length ≤ 8) (hb : ∀ r ∈ R, r < 2 ^ m) : ctxB (m : Int) (cast R) = true := by
  unfold ctxB
  rw [decide_eq_true (by omega), decide_eq_true (by rw [cast_length]; omega), Bool.true_and, Bool.true_and, List.all_eq_true]
  intro x hx
  unfold cast at hx
  obtain ⟨r, hr, rfl⟩ := List.mem_map.1 hx
  exact isSetB_mk (by omega) (hb r hr)
theorem full_sub_row {m r : Nat} (h : r < 2 ^ m) : full m - r = diff (full m) r := by
  rw [diff_eq_sub]
  have : full m &&& r = r := by
    have := sub_full h
    unfold sub at this
    rw [Nat.and_comm]
    exact eq_of_beq this
  rw [this]
end Go.Proofs.Ytemhlblajnlogaa.Pu
namespace Go.Proofs.Ytemhlblajnlogaa.Pu
open Go.RowKit Go.Proofs.YtemhlblajnlogaaW.PrintWords Go.Proofs.YtemhlblajnlogaaW.PrintLast Go.Proofs.YtemhlblajnlogaaW.PrintMore Go.Proofs.Ytemhlblajnlogaa.Pr
theorem objI_val (n : Int) (l : List Int) (hl : l.length ≤ 1048576) (g : Int) : impl_isObject.f n l g = some (ctxB n l && decide (0 ≤ g ∧ g < (l.length : Int))) := by
  unfold impl_isObject.f
  rw [ctxI_val, Option.bind_some]
  cases ctxB n l with
  | false => rfl
  | true =>
    rw [if_pos rfl, within_val, Option.bind_some, Bool.true_and, show wrap64 ((l.length : Int) - 1) = (l.length : Int) - 1 from by unfold wrap64; omega]
    refine congrArg some ?_
    rw [decide_eq_decide]
    omega
/-- a set of a list that is another one and has all of s takes part -/
def byStep (L : List Nat) (s i f : Nat) : Nat := if row L i ≠ s ∧ sub s (row L i) = true then f &&& row L i else f
def bey (L : List Nat) (s f : Nat) : Nat := foldIdx (byStep L s) 0 L.length f
theorem byStep_le (L : List Nat) (s i f : Nat) : byStep L s i f ≤ f := by
  unfold byStep
  split
  · exact Nat.and_le_left
  · exact Nat.le_refl _
theorem beyI_val (L : List Nat) (hl : L.length ≤ 8) (hL : ∀ i, row L i < 256) (s f : Nat) (hs : s < 256) (hf : f < 256) : Ev (fun k => impl_beyond.f k (cast L) (s : Int) (f : Int)) ((bey L s f : Nat) : Int) := by
  unfold impl_beyond.f
  refine ev_fold (g := fun k (a : Nat) i => impl_beyond.l0 k (s : Int) (a : Int) (cast L) ((cast L).length : Int) i) (byStep L s) (fun _ a => a < 256) (N := L.length) ?_ (fun i a _ h => Nat.lt_of_le_of_lt (byStep_le L s i a) h) L.length 0 f (by omega) hf ?_
  · intro i a hi ha h
    refine Ev.step (fun k => ?_) h
    simp only [impl_beyond.l0]
    rw [if_pos (by rw [cast_length]; omega), if_pos (by omega), if_pos (by rw [cast_length]; omega), rd_row, wrap_succ hi (by omega)]
    unfold byStep
    by_cases h1 : row L i = s
    · rw [if_pos (by rw [h1]), if_neg (fun h => h.1 h1)]
    · rw [if_neg (by omega), inS_val hs (hL i), Option.bind_some]
      by_cases h2 : sub s (row L i) = true
      · rw [if_pos h2, if_pos ⟨h1, h2⟩, and_nat (by omega) (by have := hL i; omega)]
      · rw [if_neg h2, if_neg (fun h => h2 h.2)]
  · intro b hb _
    refine Ev.step (f := fun _ => some (b : Int)) (fun k => ?_) ?_
    · simp only [impl_beyond.l0]
      rw [if_neg (by rw [cast_length]; omega)]
    · rw [hb]; exact Ev.now _
def redObjV (n : Int) (l : List Int) (g : Int) : Bool := ctxB n l && decide (0 ≤ g ∧ g < (l.length : Int)) && decide (bey (l.map Int.toNat) (row (l.map Int.toNat) g.toNat) (full n.toNat) = row (l.map Int.toNat) g.toNat)
theorem redObj_nat {m : Nat} {R : List Nat} (h : ctxB (m : Int) (cast R) = true) {g : Nat} (hg : g < R.length) : redObjV (m : Int) (cast R) (g : Int) = decide (bey R (row R g) (full m) = row R g) := by
  unfold redObjV
  rw [h, uncast, Int.toNat_natCast, Int.toNat_natCast, cast_length, decide_eq_true (show 0 ≤ (g : Int) ∧ (g : Int) < (R.length : Int) by omega)]
  simp
theorem redObjI_val (n : Int) (l : List Int) (hl : l.length ≤ 1048576) (g : Int) : Ev (fun k => impl_IsReducibleObject.f k n l g) (redObjV n l g) := by
  unfold impl_IsReducibleObject.f
  rw [objI_val n l hl g]
  simp only [Option.bind_some]
  cases h : ctxB n l && decide (0 ≤ g ∧ g < (l.length : Int)) with
  | false =>
    unfold redObjV
    rw [h, Bool.false_and]
    exact Ev.congr (fun k => by rw [if_neg (by decide)]) (Ev.now _)
  | true =>
    rw [Bool.and_eq_true, decide_eq_true_iff] at h
    obtain ⟨hc, h0, h1⟩ := h
    obtain ⟨m, R, rfl, hm, rfl, hR, hb⟩ := ctxB_nat hc
    obtain ⟨g', rfl⟩ : ∃ g' : Nat, g = (g' : Int) := ⟨g.toNat, by omega⟩
    rw [cast_length] at h1
    have hrow := fun i => lt_256 (show m ≤ 8 by omega) (row_lt hb i)
    rw [redObj_nat hc (by omega)]
    refine Ev.congr (fun k => by rw [if_pos rfl, if_pos h0, if_pos (by rw [cast_length]; exact h1), fullI_val, Option.bind_some, fullN (by omega), rd_row]) ?_
    refine Ev.bind (beyI_val R hR hrow _ _ (hrow g') (full_256 (by omega))) ?_
    refine Ev.congr (fun k => ?_) (Ev.now _)
    refine congrArg some ?_
    rw [Bool.eq_iff_iff, beq_iff_eq, decide_eq_true_iff]
    omega
theorem redObjS_val (n : Int) (l : List Int) (hl : l.length ≤ 1048576) (g : Int) : Ev (fun k => spec_IsReducibleObject.f k n l g) (redObjV n l g) := by
  unfold spec_IsReducibleObject.f
  refine Ev.bind (ctxS_val n l (by omega)) ?_
  cases hc : ctxB n l with
  | false =>
    unfold redObjV
    rw [hc, Bool.false_and, Bool.false_and]
    refine Ev.congr (fun k => by rw [if_neg (by decide)]) ?_
    refine Ev.step (f := fun _ => some false) (fun k => ?_) (Ev.now _)
    simp only [spec_IsReducibleObject.j0]
    rw [if_true]
  | true =>
    refine Ev.congr (fun k => by rw [if_pos rfl, l1In_val, Option.bind_some, show wrap64 ((l.length : Int) - 1) = (l.length : Int) - 1 from by unfold wrap64; omega]) ?_
    by_cases hg : 0 ≤ g ∧ g < (l.length : Int)
    · rw [decide_eq_true (show 0 ≤ g ∧ g ≤ (l.length : Int) - 1 by omega)]
      obtain ⟨m, R, rfl, hm, rfl, hR, hb⟩ := ctxB_nat hc
      obtain ⟨g', rfl⟩ : ∃ g' : Nat, g = (g' : Int) := ⟨g.toNat, by omega⟩
      have h1 := hg.2
      rw [cast_length] at h1
      have hrow := fun i => lt_256 (show m ≤ 8 by omega) (row_lt hb i)
      rw [redObj_nat hc (by omega)]
      refine Ev.step (f := fun k => spec_IsReducibleObject.l0 k (g' : Int) ((full m : Nat) : Int) ((0 : Nat) : Int) (m : Int) (cast R)) (fun k => ?_) ?_
      · simp only [spec_IsReducibleObject.j0]
        rw [if_neg (by decide), fullS_val, Option.bind_some, fullN (by omega)]
        rfl
      · refine ev_fold (g := fun k (a : Nat) i => spec_IsReducibleObject.l0 k (g' : Int) (a : Int) i (m : Int) (cast R)) (byStep R (row R g')) (fun _ a => a < 256) (N := R.length) ?_ (fun i a _ h => Nat.lt_of_le_of_lt (byStep_le R _ i a) h) R.length 0 (full m) (by omega) (full_256 (by omega)) ?_
        · intro i a hi ha h
          refine Ev.step (fun k => ?_) h
          simp only [spec_IsReducibleObject.l0]
          rw [if_pos (by rw [cast_length]; omega), if_pos (by omega), if_pos (by omega), if_pos (by rw [cast_length]; omega), rd_row, rd_row, wrap_succ hi (by omega)]
          unfold byStep
          by_cases h1 : row R i = row R g'
          · rw [if_pos (by rw [h1]), if_neg (fun h => h.1 h1)]
          · rw [if_neg (by omega)]
            by_cases h2 : sub (row R g') (row R i) = true
            · rw [if_pos ((and_is (hrow g') (hrow i)).2 h2), if_pos ⟨h1, h2⟩, and_nat (by omega) (by have := hrow i; omega)]
            · rw [if_neg (fun h => h2 ((and_is (hrow g') (hrow i)).1 h)), if_neg (fun h => h2 h.2)]
        · intro b hb' _
          refine Ev.step (f := fun _ => some (decide (bey R (row R g') (full m) = row R g'))) (fun k => ?_) (Ev.now _)
          simp only [spec_IsReducibleObject.l0]
          rw [if_neg (by rw [cast_length]; omega), if_pos (by omega), if_pos (by rw [cast_length]; omega), rd_row, hb']
          refine congrArg some ?_
          rw [Bool.eq_iff_iff, beq_iff_eq, decide_eq_true_iff]
          exact Int.natCast_inj
    · rw [decide_eq_false (show ¬ (0 ≤ g ∧ g ≤ (l.length : Int) - 1) by omega)]
      unfold redObjV
      rw [hc, decide_eq_false hg, Bool.and_false, Bool.false_and]
      refine Ev.step (f := fun _ => some false) (fun k => ?_) (Ev.now _)
      simp only [spec_IsReducibleObject.j0, Bool.not_false]
      rw [if_true]
end Go.Proofs.Ytemhlblajnlogaa.Pu
namespace Go.Proofs.Ytemhlblajnlogaa.Pu
open Go.RowKit Go.Proofs.YtemhlblajnlogaaW.PrintWords Go.Proofs.YtemhlblajnlogaaW.PrintLast Go.Proofs.YtemhlblajnlogaaW.PrintMore Go.Proofs.Ytemhlblajnlogaa.Pr
theorem col_lt (R : List Nat) (m : Nat) : col R m < 2 ^ R.length := ofBits_lt _ _
theorem colS_val (R : List Nat) (hR : R.length ≤ 8) (hrow : ∀ i, row R i < 256) (n : Int) (m : Nat) (hm : m ≤ 8) : Ev (fun k => spec_l3Column.f k n (cast R) (m : Int)) ((col R m : Nat) : Int) := by
  unfold spec_l3Column.f
  refine ev_fold (g := fun k (a : Nat) i => spec_l3Column.l0 k (m : Int) (a : Int) i n (cast R)) (bitStep fun g => (row R g).testBit m) (fun _ a => a < 2 ^ R.length) (N := R.length) ?_ (fun i a hi h => bitStep_lt hi h) R.length 0 0 (by omega) (Nat.two_pow_pos _) ?_
  · intro i a hi ha h
    have ha' := lt_256 hR ha
    refine Ev.step (fun k => ?_) h
    simp only [spec_l3Column.l0]
    rw [if_pos (by rw [cast_length]; omega), if_pos (by omega), rd_row, l2Has_val _ _ (by have := hrow i; omega) (by omega), Option.bind_some, wrap_succ hi (by omega), wrapU_small _ (by omega) (by omega)]
    unfold bitStep
    dsimp only
    by_cases hb : (row R i).testBit m = true
    · rw [if_pos hb, if_pos (by omega), if_pos hb, or_bit ha' (by omega)]
    · rw [if_neg hb, if_neg hb]
  · intro b hb _
    refine Ev.step (f := fun _ => some (b : Int)) (fun k => ?_) ?_
    · simp only [spec_l3Column.l0]
      rw [if_neg (by rw [cast_length]; omega)]
    · rw [hb, fold_bits]; exact Ev.now _
def attrB (n : Int) (l : List Int) (m : Int) : Bool := ctxB n l && decide (0 ≤ m ∧ m < n)
theorem attrI_val (n : Int) (l : List Int) (m : Int) : impl_isAttribute.f n l m = some (attrB n l m) := by
  unfold impl_isAttribute.f attrB
  rw [ctxI_val, Option.bind_some]
  cases h : ctxB n l with
  | false => rfl
  | true =>
    obtain ⟨q, R, rfl, hq, _⟩ := ctxB_nat h
    rw [if_pos rfl, within_val, Option.bind_some, Bool.true_and, show wrap64 ((q : Int) - 1) = (q : Int) - 1 from by unfold wrap64; omega]
    refine congrArg some ?_
    rw [decide_eq_decide]
    omega
theorem attr_nat {n : Int} {l : List Int} {g : Int} (h : attrB n l g = true) : ∃ (m : Nat) (R : List Nat) (g' : Nat), n = (m : Int) ∧ m ≤ 6 ∧ l = cast R ∧ R.length ≤ 8 ∧ (∀ r ∈ R, r < 2 ^ m) ∧ g = (g' : Int) ∧ g' < m ∧ n.toNat = m ∧ l.map Int.toNat = R ∧ g.toNat = g' := by
  unfold attrB at h
  rw [Bool.and_eq_true, decide_eq_true_iff] at h
  obtain ⟨hc, h0, h1⟩ := h
  obtain ⟨m, R, rfl, hm, rfl, hR, hb⟩ := ctxB_nat hc
  exact ⟨m, R, g.toNat, rfl, hm, rfl, hR, hb, by omega, by omega, Int.toNat_natCast m, uncast R, rfl⟩
theorem colI_loop (R : List Nat) (hR : R.length ≤ 8) (hrow : ∀ i, row R i < 256) (m : Nat) (hm : m ≤ 8) : Ev (fun k => impl_ColumnOf.l0 k (m : Int) 0 (cast R) ((cast R).length : Int) 0) ((col R m : Nat) : Int) := by
  refine ev_fold (g := fun k (a : Nat) i => impl_ColumnOf.l0 k (m : Int) (a : Int) (cast R) ((cast R).length : Int) i) (bitStep fun g => (row R g).testBit m) (fun _ a => a < 2 ^ R.length) (N := R.length) ?_ (fun i a hi h => bitStep_lt hi h) R.length 0 0 (by omega) (Nat.two_pow_pos _) ?_
  · intro i a hi ha h
    have ha' := lt_256 hR ha
    refine Ev.step (fun k => ?_) h
    simp only [impl_ColumnOf.l0]
    rw [if_pos (by rw [cast_length]; omega), if_pos (by omega), if_pos (by rw [cast_length]; omega), if_pos (by omega), rd_row, bit01 _ _ (by have := hrow i; omega) (by omega), or_shl ha' (by omega), wrap_succ hi (by omega)]
    rfl
  · intro b hb _
    refine Ev.step (f := fun _ => some (b : Int)) (fun k => ?_) ?_
    · simp only [impl_ColumnOf.l0]
      rw [if_neg (by rw [cast_length]; omega)]
    · rw [hb, fold_bits]; exact Ev.now _
theorem colI_val {n : Int} {l : List Int} {m : Nat} {R : List Nat} {g : Nat} (h : ctxB n l = true) (e : n = (m : Int)) (e' : l = cast R) (hm : m ≤ 6) (hR : R.length ≤ 8) (hb : ∀ r ∈ R, r < 2 ^ m) (hg : g < m) : Ev (fun k => impl_ColumnOf.f k n l (g : Int)) ((col R g : Nat) : Int) := by
  unfold impl_ColumnOf.f
  have ha : attrB n l (g : Int) = true := by unfold attrB; rw [h, Bool.true_and, decide_eq_true_iff]; omega
  refine Ev.congr (fun k => by rw [attrI_val, ha, Option.bind_some, if_pos rfl, e']) ?_
  exact colI_loop R hR (fun i => lt_256 (show m ≤ 8 by omega) (row_lt hb i)) g (by omega)
def cols (m : Nat) (R : List Nat) : List Nat := (List.range m).map (col R)
theorem cols_length (m : Nat) (R : List Nat) : (cols m R).length = m := by unfold cols; rw [List.length_map, List.length_range]
theorem row_cols {m i : Nat} (R : List Nat) (h : i < m) : row (cols m R) i = col R i := by
  unfold row cols
  rw [List.getD_eq_getElem?_getD, List.getElem?_map, List.getElem?_range h]
  rfl
theorem cols_lt {m : Nat} {R : List Nat} : ∀ r ∈ cols m R, r < 2 ^ R.length := by
  intro r hr
  obtain ⟨i, _, rfl⟩ := List.mem_map.1 hr
  exact col_lt R i
theorem colsI_val {n : Int} {l : List Int} {m : Nat} {R : List Nat} (h : ctxB n l = true) (e : n = (m : Int)) (e' : l = cast R) (hm : m ≤ 6) (hR : R.length ≤ 8) (hb : ∀ r ∈ R, r < 2 ^ m) : Ev (fun k => impl_columns.f k n l) (cast (cols m R)) := by
  unfold impl_columns.f
  subst e
  refine ev_fold (g := fun k (a : List Int) i => impl_columns.l0 k a (m : Int) i (m : Int) l) (fun i a => a ++ [((col R i : Nat) : Int)]) (fun i a => a = cast ((List.range i).map (col R))) (N := m) ?_ ?_ m 0 [] (by omega) rfl ?_
  · intro i a hi ha h'
    have hl : a.length ≤ 8 := by rw [ha, cast_length, List.length_map, List.length_range]; omega
    refine Ev.step (f := fun k => (impl_ColumnOf.f k (m : Int) l (i : Int)).bind fun t => impl_columns.l0 k (a ++ [t]) (m : Int) ((i + 1 : Nat) : Int) (m : Int) l) (fun k => ?_) ?_
    · simp only [impl_columns.l0]
      rw [if_pos (by omega), wrap_succ hi (by omega)]
      simp only [if_pos (show a.length < 17592186044416 by omega)]
    · exact Ev.bind (colI_val h rfl e' hm hR hb hi) h'
  · intro i a hi ha
    rw [ha, List.range_succ, List.map_append]
    unfold cast
    rw [List.map_append]
    rfl
  · intro b _ hb'
    refine Ev.step (f := fun _ => some b) (fun k => ?_) ?_
    · simp only [impl_columns.l0]
      rw [if_neg (by omega)]
    · rw [hb']; exact Ev.now _
end Go.Proofs.Ytemhlblajnlogaa.Pu
namespace Go.Proofs.Ytemhlblajnlogaa.Pu
open Go.RowKit Go.Proofs.YtemhlblajnlogaaW.PrintWords Go.Proofs.YtemhlblajnlogaaW.PrintLast Go.Proofs.YtemhlblajnlogaaW.PrintMore Go.Proofs.Ytemhlblajnlogaa.Pr
def redAttrV (n : Int) (l : List Int) (g : Int) : Bool := attrB n l g && decide (bey (cols n.toNat (l.map Int.toNat)) (col (l.map Int.toNat) g.toNat) (full l.length) = col (l.map Int.toNat) g.toNat)
theorem redAttrI_val (n : Int) (l : List Int) (_hl : l.length ≤ 1048576) (g : Int) : Ev (fun k => impl_IsReducibleAttribute.f k n l g) (redAttrV n l g) := by
  unfold impl_IsReducibleAttribute.f redAttrV
  rw [attrI_val]
  simp only [Option.bind_some]
  cases h : attrB n l g with
  | false => exact Ev.congr (fun k => by rw [if_neg (by decide), Bool.false_and]) (Ev.now _)
  | true =>
    have hc : ctxB n l = true := by unfold attrB at h; rw [Bool.and_eq_true] at h; exact h.1
    obtain ⟨m, R, g', rfl, hm, rfl, hR, hb, rfl, hg, e1, e2, e3⟩ := attr_nat h
    rw [e1, e2, e3, Bool.true_and, cast_length]
    refine Ev.congr (fun k => by rw [if_pos rfl]) ?_
    refine Ev.bind (colsI_val hc rfl rfl hm hR hb) ?_
    refine Ev.bind (colI_val hc rfl rfl hm hR hb hg) ?_
    refine Ev.congr (fun k => by rw [fullI_val, Option.bind_some, fullN (by omega)]) ?_
    refine Ev.bind (beyI_val (cols m R) (by rw [cols_length]; omega) (fun i => lt_256 hR (row_lt cols_lt i)) _ _ (lt_256 hR (col_lt R g')) (full_256 hR)) ?_
    refine Ev.bind (colI_val hc rfl rfl hm hR hb hg) ?_
    refine Ev.congr (fun k => ?_) (Ev.now _)
    refine congrArg some ?_
    rw [Bool.eq_iff_iff, beq_iff_eq, decide_eq_true_iff]
    exact Int.natCast_inj
theorem l1In_attr {n : Int} (hn : 0 ≤ n ∧ n ≤ 6) (g : Int) : spec_l1In.f g 0 (wrap64 (n - 1)) = some (decide (0 ≤ g ∧ g < n)) := by
  rw [l1In_val, show wrap64 (n - 1) = n - 1 from by unfold wrap64; omega]
  refine congrArg some ?_
  rw [decide_eq_decide]
  omega
theorem ctxB_n {n : Int} {l : List Int} (h : ctxB n l = true) : 0 ≤ n ∧ n ≤ 6 := by
  unfold ctxB at h
  rw [Bool.and_eq_true, Bool.and_eq_true, decide_eq_true_iff] at h
  exact h.1.1
theorem redAttrS_val (n : Int) (l : List Int) (hl : l.length ≤ 1048576) (g : Int) : Ev (fun k => spec_IsReducibleAttribute.f k n l g) (redAttrV n l g) := by
  unfold spec_IsReducibleAttribute.f
  refine Ev.bind (ctxS_val n l (by omega)) ?_
  cases hc : ctxB n l with
  | false =>
    unfold redAttrV attrB
    rw [hc, Bool.false_and, Bool.false_and]
    refine Ev.congr (fun k => by rw [if_neg (by decide)]) ?_
    refine Ev.step (f := fun _ => some false) (fun k => ?_) (Ev.now _)
    simp only [spec_IsReducibleAttribute.j0]
    rw [if_true]
  | true =>
    refine Ev.congr (fun k => by rw [if_pos rfl, l1In_attr (ctxB_n hc), Option.bind_some]) ?_
    rw [show decide (0 ≤ g ∧ g < n) = attrB n l g from by unfold attrB; rw [hc]; rfl]
    unfold redAttrV
    cases h : attrB n l g with
    | false =>
      rw [Bool.false_and]
      refine Ev.step (f := fun _ => some false) (fun k => ?_) (Ev.now _)
      simp only [spec_IsReducibleAttribute.j0, Bool.not_false]
      rw [if_true]
    | true =>
      obtain ⟨m, R, g', rfl, hm, rfl, hR, hb, rfl, hg, e1, e2, e3⟩ := attr_nat h
      rw [e1, e2, e3, Bool.true_and, cast_length]
      have hrow := fun i => lt_256 (show m ≤ 8 by omega) (row_lt hb i)
      have hcol := fun i => lt_256 hR (col_lt R i)
      refine Ev.step (f := fun k => (spec_l3Column.f k (m : Int) (cast R) (g' : Int)).bind fun t => spec_IsReducibleAttribute.l0 k t ((full R.length : Nat) : Int) ((0 : Nat) : Int) (m : Int) (cast R)) (fun k => ?_) ?_
      · simp only [spec_IsReducibleAttribute.j0]
        rw [if_neg (by decide), fullS_val, cast_length, fullN hR]
        rfl
      · refine Ev.bind (colS_val R hR hrow _ g' (by omega)) ?_
        refine ev_fold (g := fun k (a : Nat) i => spec_IsReducibleAttribute.l0 k ((col R g' : Nat) : Int) (a : Int) i (m : Int) (cast R)) (byStep (cols m R) (col R g')) (fun _ a => a < 256) (N := m) ?_ (fun i a _ h => Nat.lt_of_le_of_lt (byStep_le _ _ i a) h) m 0 (full R.length) (by omega) (full_256 hR) ?_
        · intro i a hi ha h
          refine Ev.step (f := fun k => (spec_l3Column.f k (m : Int) (cast R) (i : Int)).bind fun t => if t = ((col R g' : Nat) : Int) then spec_IsReducibleAttribute.l0 k ((col R g' : Nat) : Int) (a : Int) ((i + 1 : Nat) : Int) (m : Int) (cast R) else if Go.bits .and .i64 t ((col R g' : Nat) : Int) = ((col R g' : Nat) : Int) then spec_IsReducibleAttribute.l0 k ((col R g' : Nat) : Int) (Go.bits .and .i64 (a : Int) t) ((i + 1 : Nat) : Int) (m : Int) (cast R) else spec_IsReducibleAttribute.l0 k ((col R g' : Nat) : Int) (a : Int) ((i + 1 : Nat) : Int) (m : Int) (cast R)) (fun k => ?_) ?_
          · simp only [spec_IsReducibleAttribute.l0]
            rw [if_pos (by omega), wrap_succ hi (by omega)]
          · refine Ev.bind (colS_val R hR hrow _ i (by omega)) ?_
            unfold byStep at h
            rw [row_cols R hi] at h
            by_cases h1 : col R i = col R g'
            · rw [if_neg (fun h => h.1 h1)] at h
              exact Ev.congr (fun k => by rw [if_pos (by rw [h1])]) h
            · by_cases h2 : sub (col R g') (col R i) = true
              · rw [if_pos ⟨h1, h2⟩] at h
                exact Ev.congr (fun k => by rw [if_neg (by omega), if_pos ((and_is (hcol g') (hcol i)).2 h2), and_nat (by omega) (by have := hcol i; omega)]) h
              · rw [if_neg (fun h => h2 h.2)] at h
                exact Ev.congr (fun k => by rw [if_neg (by omega), if_neg (fun h => h2 ((and_is (hcol g') (hcol i)).1 h))]) h
        · intro b hb' _
          refine Ev.step (f := fun _ => some (decide (bey (cols m R) (col R g') (full R.length) = col R g'))) (fun k => ?_) (Ev.now _)
          simp only [spec_IsReducibleAttribute.l0]
          rw [if_neg (by omega), hb']
          refine congrArg some ?_
          rw [Bool.eq_iff_iff, beq_iff_eq, decide_eq_true_iff]
          unfold bey
          rw [cols_length]
          exact Int.natCast_inj
end Go.Proofs.Ytemhlblajnlogaa.Pu
namespace Go.Proofs.Ytemhlblajnlogaa.Pu
open Go.RowKit Go.Proofs.YtemhlblajnlogaaW.PrintWords Go.Proofs.YtemhlblajnlogaaW.PrintLast Go.Proofs.YtemhlblajnlogaaW.PrintMore Go.Proofs.Ytemhlblajnlogaa.Pr
def atsB (n : Int) (l : List Int) (a : Int) : Bool := ctxB n l && isSetB n a
def obsB (n : Int) (l : List Int) (o : Int) : Bool := ctxB n l && isSetB (l.length : Int) o
theorem ats_nat {n : Int} {l : List Int} {a : Int} (h : atsB n l a = true) : ctxB n l = true ∧ ∃ (m : Nat) (R : List Nat) (a' : Nat), n = (m : Int) ∧ m ≤ 6 ∧ l = cast R ∧ R.length ≤ 8 ∧ (∀ r ∈ R, r < 2 ^ m) ∧ a = (a' : Int) ∧ a' < 2 ^ m := by
  unfold atsB at h
  rw [Bool.and_eq_true] at h
  obtain ⟨hc, hs⟩ := h
  obtain ⟨m, R, rfl, hm, rfl, hR, hb⟩ := ctxB_nat hc
  obtain ⟨m', a', _, e, ha, rfl⟩ := isSetB_nat hs
  obtain rfl : m = m' := by omega
  exact ⟨hc, m, R, a', rfl, hm, rfl, hR, hb, rfl, ha⟩
theorem obs_nat {n : Int} {l : List Int} {o : Int} (h : obsB n l o = true) : ctxB n l = true ∧ ∃ (m : Nat) (R : List Nat) (o' : Nat), n = (m : Int) ∧ m ≤ 6 ∧ l = cast R ∧ R.length ≤ 8 ∧ (∀ r ∈ R, r < 2 ^ m) ∧ o = (o' : Int) ∧ o' < 2 ^ R.length := by
  unfold obsB at h
  rw [Bool.and_eq_true] at h
  obtain ⟨hc, hs⟩ := h
  obtain ⟨m, R, rfl, hm, rfl, hR, hb⟩ := ctxB_nat hc
  rw [cast_length] at hs
  obtain ⟨m', a', _, e, ha, rfl⟩ := isSetB_nat hs
  obtain rfl : R.length = m' := by omega
  exact ⟨hc, m, R, a', rfl, hm, rfl, hR, hb, rfl, ha⟩
end Go.Proofs.Ytemhlblajnlogaa.Pu
namespace Go.Proofs.Ytemhlblajnlogaa.Pu
open Go.RowKit Go.Proofs.YtemhlblajnlogaaW.PrintWords Go.Proofs.YtemhlblajnlogaaW.PrintLast Go.Proofs.YtemhlblajnlogaaW.PrintMore Go.Proofs.Ytemhlblajnlogaa.Pr
/-- the elements of a set, ascending -/
def elN (s : Nat) : List Nat := (List.range 8).filter fun (e : Nat) => s.testBit e
theorem elN_length (s : Nat) : (elN s).length ≤ 8 := by
  have := List.length_filter_le (fun (e : Nat) => s.testBit e) (List.range 8)
  rw [List.length_range] at this
  exact this
theorem elN_le (s i : Nat) : row (elN s) i ≤ 7 := by
  unfold row
  rw [List.getD_eq_getElem?_getD]
  cases h : (elN s)[i]? with
  | none => exact Nat.zero_le _
  | some x =>
    have := List.mem_range.1 (List.mem_filter.1 (List.mem_of_getElem? h)).1
    show x ≤ 7
    omega
/-- the elements of c numbered anew: those that are in s -/
def pack (s c : Nat) : Nat := ofBits (fun k => s.testBit (row (elN c) k)) (elN c).length
theorem pack_lt (s c : Nat) : pack s c < 2 ^ (elN c).length := ofBits_lt _ _
set_option maxRecDepth 100000 in
theorem countI_all : ∀ a : Fin 256, impl_CountOf.f ((a.val : Nat) : Int) = some (((elN a.val).length : Nat) : Int) := by decide +kernel
theorem countI_val {a : Nat} (ha : a < 256) : impl_CountOf.f (a : Int) = some (((elN a).length : Nat) : Int) := countI_all ⟨a, ha⟩
theorem elemsV_nat {a : Nat} (ha : a < 256) : elemsV (a : Int) = cast (elN a) := by
  unfold elemsV isAny
  rw [decide_eq_true (by omega), if_pos rfl, Int.toNat_natCast]
  rfl
theorem renI_val {s c : Nat} (hs : s < 256) (hc : c < 256) : Ev (fun k => impl_renumbered.f k (s : Int) (c : Int)) ((pack s c : Nat) : Int) := by
  unfold impl_renumbered.f
  refine Ev.bind (elemsI_val (c : Int)) ?_
  rw [elemsV_nat hc]
  have hl := elN_length c
  refine ev_fold (g := fun k (a : Nat) i => impl_renumbered.l0 k (s : Int) (a : Int) (cast (elN c)) ((cast (elN c)).length : Int) i) (bitStep fun k => s.testBit (row (elN c) k)) (fun _ a => a < 2 ^ (elN c).length) (N := (elN c).length) ?_ (fun i a hi h => bitStep_lt hi h) (elN c).length 0 0 (by omega) (Nat.two_pow_pos _) ?_
  · intro i a hi ha h
    have ha' := lt_256 hl ha
    have h7 := elN_le c i
    refine Ev.step (fun k => ?_) h
    simp only [impl_renumbered.l0]
    rw [if_pos (by rw [cast_length]; omega), if_pos (by omega), if_pos (by rw [cast_length]; omega), rd_row, if_pos (by omega), bit01 _ _ (by omega) (by omega), or_shl ha' (by omega), wrap_succ hi (by omega)]
    rfl
  · intro b hb _
    refine Ev.step (f := fun _ => some (b : Int)) (fun k => ?_) ?_
    · simp only [impl_renumbered.l0]
      rw [if_neg (by rw [cast_length]; omega)]
    · rw [hb, fold_bits]; exact Ev.now _
/-- the places that are not in o, and their rows with the attributes of c numbered anew -/
def leftR (R : List Nat) (o c i : Nat) : List Nat := ((List.range i).filter fun (j : Nat) => !o.testBit j).map fun j => pack (row R j) c
theorem leftR_length (R : List Nat) (o c i : Nat) : (leftR R o c i).length ≤ i := by
  unfold leftR
  rw [List.length_map]
  have := List.length_filter_le (fun (j : Nat) => !o.testBit j) (List.range i)
  rw [List.length_range] at this
  exact this
theorem leftR_succ (R : List Nat) (o c i : Nat) : leftR R o c (i + 1) = if o.testBit i = true then leftR R o c i else leftR R o c i ++ [pack (row R i) c] := by
  unfold leftR
  rw [List.range_succ, List.filter_append, List.map_append]
  by_cases h : o.testBit i = true
  · rw [if_pos h, List.filter_cons_of_neg (by rw [h]; decide), List.filter_nil, List.map_nil, List.append_nil]
  · rw [if_neg h, List.filter_cons_of_pos (by simpa using h), List.filter_nil]
    rfl
theorem cast_append (a b : List Nat) : cast (a ++ b) = cast a ++ cast b := by unfold cast; rw [List.map_append]
theorem hasI_nat {c i : Nat} (hc : c < 256) (hi : i ≤ 7) : impl_HasElement.f (c : Int) (i : Int) = some (c.testBit i) := by
  rw [hasI_val]
  unfold hasV isAny
  rw [decide_eq_true (by omega), decide_eq_true (by omega)]
  simp
theorem withI_val (m : Nat) (hm : m ≤ 8) (R : List Nat) (hR : R.length ≤ 8) (hrow : ∀ i, row R i < 256) (o at_ : Nat) (ho : o < 256) (hat : at_ < 256) :
    Ev (fun k => impl_without.f k (m : Int) (cast R) (o : Int) (at_ : Int)) ((((elN (diff (full m) at_)).length : Nat) : Int), cast (leftR R o (diff (full m) at_) R.length)) := by
  unfold impl_without.f
  have hf := full_256 hm
  have hd : diff (full m) at_ < 256 := Nat.lt_of_le_of_lt (diff_le _ _) hf
  refine Ev.congr (fun k => by rw [fullI_val, Option.bind_some, fullN hm, andNot_nat (by omega) (by omega), countI_val hd, Option.bind_some]) ?_
  generalize diff (full m) at_ = c at *
  refine ev_fold (g := fun k (a : List Int) i => impl_without.l0 k (o : Int) (c : Int) (cast R) ((cast R).length : Int) i (((elN c).length : Nat) : Int) a) (fun i _ => cast (leftR R o c (i + 1))) (fun i a => a = cast (leftR R o c i)) (N := R.length) ?_ (fun i a hi h => rfl) R.length 0 [] (by omega) rfl ?_
  · intro i a hi ha h
    have hl := leftR_length R o c i
    have hal : a.length ≤ 8 := by rw [ha, cast_length]; omega
    rw [leftR_succ] at h
    by_cases h1 : o.testBit i = true
    · rw [if_pos h1, ← ha] at h
      refine Ev.step (fun k => ?_) h
      simp only [impl_without.l0]
      rw [if_pos (by rw [cast_length]; omega), if_pos (by omega), if_pos (by rw [cast_length]; omega), hasI_nat ho (by omega), Option.bind_some, if_pos h1, wrap_succ hi (by omega)]
    · rw [if_neg h1, cast_append, ← ha] at h
      refine Ev.step (f := fun k => (impl_renumbered.f k ((row R i : Nat) : Int) (c : Int)).bind fun t => impl_without.l0 k (o : Int) (c : Int) (cast R) ((cast R).length : Int) ((i + 1 : Nat) : Int) (((elN c).length : Nat) : Int) (a ++ [t])) (fun k => ?_) ?_
      · simp only [impl_without.l0]
        rw [if_pos (by rw [cast_length]; omega), if_pos (by omega), if_pos (by rw [cast_length]; omega), hasI_nat ho (by omega), Option.bind_some, if_neg h1, wrap_succ hi (by omega), rd_row]
        simp only [if_pos (show a.length < 17592186044416 by omega)]
      · exact Ev.bind (renI_val (hrow i) hd) h
  · intro b _ hb'
    refine Ev.step (f := fun _ => some ((((elN c).length : Nat) : Int), b)) (fun k => ?_) ?_
    · simp only [impl_without.l0]
      rw [if_neg (by rw [cast_length]; omega)]
    · rw [hb']; exact Ev.now _
theorem elN_full {m : Nat} (h : m ≤ 8) : elN (full m) = List.range m := by
  have h' : m = 0 ∨ m = 1 ∨ m = 2 ∨ m = 3 ∨ m = 4 ∨ m = 5 ∨ m = 6 ∨ m = 7 ∨ m = 8 := by omega
  rcases h' with rfl | rfl | rfl | rfl | rfl | rfl | rfl | rfl | rfl <;> decide +kernel
theorem row_range {m i : Nat} (h : i < m) : row (List.range m) i = i := by
  unfold row
  rw [List.getD_eq_getElem?_getD, List.getElem?_range h]
  rfl
theorem pack_full {m s : Nat} (hm : m ≤ 8) (hs : s < 2 ^ m) : pack s (full m) = s := by
  unfold pack
  rw [elN_full hm, List.length_range]
  exact (eq_ofBits hs fun i hi => by rw [row_range hi]).symm
theorem diff_zero (a : Nat) : diff a 0 = a := by unfold diff; rw [Nat.and_zero, Nat.xor_zero]
/-- the rows that are left -/
def keptR (R : List Nat) (o i : Nat) : List Nat := ((List.range i).filter fun (j : Nat) => !o.testBit j).map fun j => row R j
theorem leftR_full {m : Nat} (hm : m ≤ 8) {R : List Nat} (hb : ∀ r ∈ R, r < 2 ^ m) (o i : Nat) : leftR R o (full m) i = keptR R o i := by
  unfold leftR keptR
  exact List.map_congr_left fun j _ => pack_full hm (row_lt hb j)
theorem keptR_length (R : List Nat) (o i : Nat) : (keptR R o i).length ≤ i := by
  unfold keptR
  rw [List.length_map]
  have := List.length_filter_le (fun (j : Nat) => !o.testBit j) (List.range i)
  rw [List.length_range] at this
  exact this
theorem keptR_succ (R : List Nat) (o i : Nat) : keptR R o (i + 1) = if o.testBit i = true then keptR R o i else keptR R o i ++ [row R i] := by
  unfold keptR
  rw [List.range_succ, List.filter_append, List.map_append]
  by_cases h : o.testBit i = true
  · rw [if_pos h, List.filter_cons_of_neg (by rw [h]; decide), List.filter_nil, List.map_nil, List.append_nil]
  · rw [if_neg h, List.filter_cons_of_pos (by simpa using h), List.filter_nil]
    rfl
end Go.Proofs.Ytemhlblajnlogaa.Pu
namespace Go.Proofs.Ytemhlblajnlogaa.Pu
open Go.RowKit Go.Proofs.YtemhlblajnlogaaW.PrintWords Go.Proofs.YtemhlblajnlogaaW.PrintLast Go.Proofs.YtemhlblajnlogaaW.PrintMore Go.Proofs.Ytemhlblajnlogaa.Pr
set_option maxRecDepth 100000 in
theorem countS_all : ∀ a : Fin 256, spec_CountOf.f 10 ((a.val : Nat) : Int) = some (((elN a.val).length : Nat) : Int) := by decide +kernel
theorem countS_val {a : Nat} (ha : a < 256) : Ev (fun k => spec_CountOf.f k (a : Int)) (((elN a).length : Nat) : Int) := Ev.of (fun k => spec_CountOf.mono _ k) (countS_all ⟨a, ha⟩)
/-- the elements of c below e -/
def elB (c e : Nat) : List Nat := (List.range e).filter fun (j : Nat) => c.testBit j
theorem elB_succ (c e : Nat) : elB c (e + 1) = if c.testBit e = true then elB c e ++ [e] else elB c e := by
  unfold elB
  rw [List.range_succ, List.filter_append]
  by_cases h : c.testBit e = true
  · rw [if_pos h, List.filter_cons_of_pos h, List.filter_nil]
  · rw [if_neg h, List.filter_cons_of_neg h, List.filter_nil, List.append_nil]
theorem elB_length (c e : Nat) : (elB c e).length ≤ e := by
  have := List.length_filter_le (fun (j : Nat) => c.testBit j) (List.range e)
  rw [List.length_range] at this
  exact this
theorem row_append_lt {L : List Nat} {x i : Nat} (h : i < L.length) : row (L ++ [x]) i = row L i := by
  unfold row
  rw [List.getD_eq_getElem?_getD, List.getD_eq_getElem?_getD, List.getElem?_append_left h]
theorem row_append_self (L : List Nat) (x : Nat) : row (L ++ [x]) L.length = x := by
  unfold row
  rw [List.getD_eq_getElem?_getD, List.getElem?_append_right (Nat.le_refl _), Nat.sub_self]
  rfl
def packB (s c e : Nat) : Nat := ofBits (fun k => s.testBit (row (elB c e) k)) (elB c e).length
theorem packB_succ (s c e : Nat) : packB s c (e + 1) = if c.testBit e = true then (if s.testBit e = true then packB s c e ||| 2 ^ (elB c e).length else packB s c e) else packB s c e := by
  unfold packB
  rw [elB_succ]
  by_cases h : c.testBit e = true
  · rw [if_pos h, if_pos h, List.length_append, List.length_singleton, ofBits, row_append_self]
    rw [ofBits_congr (g := fun k => s.testBit (row (elB c e) k)) (fun i hi => by rw [row_append_lt hi])]
    by_cases h' : s.testBit e = true
    · rw [if_pos h', if_pos h']
    · rw [if_neg h', if_neg h', Nat.or_zero]
  · rw [if_neg h, if_neg h]
theorem packS_val {s c : Nat} (hs : s < 256) (hc : c < 256) : Ev (fun k => spec_l7Pack.f k (s : Int) (c : Int)) ((pack s c : Nat) : Int) := by
  unfold spec_l7Pack.f
  refine ev_fold (g := fun k (a : Nat × Nat) i => spec_l7Pack.l0 k (s : Int) (c : Int) (a.1 : Int) (a.2 : Int) i) (fun e _ => (packB s c (e + 1), (elB c (e + 1)).length)) (fun e a => a = (packB s c e, (elB c e).length)) (N := 8) ?_ (fun i a hi h => rfl) 8 0 (0, 0) rfl rfl ?_
  · intro i a hi ha h
    subst ha
    have hl := elB_length c i
    have hp : packB s c i < 256 := lt_256 (show (elB c i).length ≤ 8 by omega) (ofBits_lt _ _)
    refine Ev.step (fun k => ?_) h
    simp only [spec_l7Pack.l0]
    rw [if_pos (by omega), l2Has_val c i (by omega) (by omega), Option.bind_some, l2Has_val s i (by omega) (by omega), Option.bind_some, packB_succ, elB_succ, wrapU_small _ (by omega) (by omega), show wrap64 ((i : Int) + 1) = ((i + 1 : Nat) : Int) from by unfold wrap64; omega, show wrap64 (((elB c i).length : Int) + 1) = (((elB c i).length + 1 : Nat) : Int) from by unfold wrap64; omega]
    by_cases h1 : c.testBit i = true
    · rw [if_pos h1, if_pos h1, if_pos h1, List.length_append, List.length_singleton]
      by_cases h2 : s.testBit i = true
      · rw [if_pos h2, if_pos h2, if_pos (by omega), or_bit hp (by omega)]
      · rw [if_neg h2, if_neg h2]
    · rw [if_neg h1, if_neg h1, if_neg h1]
  · intro b hb hb'
    refine Ev.step (f := fun _ => some (b.1 : Int)) (fun k => ?_) ?_
    · simp only [spec_l7Pack.l0]
      rw [if_neg (by decide)]
    · rw [hb']; exact Ev.now _
def dropAV (n : Int) (l : List Int) (a : Int) : Int × List Int × Bool := if atsB n l a = true then ((((elN (diff (full n.toNat) a.toNat)).length : Nat) : Int), cast (leftR (l.map Int.toNat) 0 (diff (full n.toNat) a.toNat) l.length), true) else (0, [], false)
theorem dropAS_val (n : Int) (l : List Int) (hl : l.length ≤ 1048576) (a : Int) : Ev (fun k => spec_DropAttributes.f k n l a) (dropAV n l a) := by
  unfold spec_DropAttributes.f dropAV
  refine Ev.bind (ctxS_val n l (by omega)) ?_
  cases hc : ctxB n l with
  | false =>
    rw [show atsB n l a = false from by unfold atsB; rw [hc]; rfl, if_neg (by decide)]
    refine Ev.congr (fun k => by rw [if_neg (by decide)]) ?_
    refine Ev.step (f := fun _ => some (0, [], false)) (fun k => ?_) (Ev.now _)
    simp only [spec_DropAttributes.j0]
    rw [if_true]
  | true =>
    refine Ev.congr (fun k => by rw [if_pos rfl, specSet_val, Option.bind_some, show isSetB n a = atsB n l a from by unfold atsB; rw [hc, Bool.true_and]]) ?_
    cases h : atsB n l a with
    | false =>
      rw [if_neg (by decide)]
      refine Ev.step (f := fun _ => some (0, [], false)) (fun k => ?_) (Ev.now _)
      simp only [spec_DropAttributes.j0, Bool.not_false]
      rw [if_true]
    | true =>
      obtain ⟨_, m, R, a', rfl, hm, rfl, hR, hb, rfl, ha⟩ := ats_nat h
      have hrow := fun i => lt_256 (show m ≤ 8 by omega) (row_lt hb i)
      have hf := full_256 (show m ≤ 8 by omega)
      have hle : a' ≤ full m := by unfold full; omega
      have hd : diff (full m) a' < 256 := Nat.lt_of_le_of_lt (diff_le _ _) hf
      rw [if_pos rfl, uncast, Int.toNat_natCast, Int.toNat_natCast, cast_length]
      refine Ev.step (f := fun k => (spec_CountOf.f k ((diff (full m) a' : Nat) : Int)).bind fun t => spec_DropAttributes.l0 k ((diff (full m) a' : Nat) : Int) ((0 : Nat) : Int) (m : Int) (cast R) t []) (fun k => ?_) ?_
      · simp only [spec_DropAttributes.j0, Bool.not_true]
        rw [if_neg (by decide), fullS_val, Option.bind_some, fullN (by omega), show wrap64 (((full m : Nat) : Int) - (a' : Int)) = ((full m - a' : Nat) : Int) from by unfold wrap64; omega, full_sub_row ha]
        rfl
      · refine Ev.bind (countS_val hd) ?_
        generalize diff (full m) a' = c at *
        refine ev_fold (g := fun k (b : List Int) i => spec_DropAttributes.l0 k (c : Int) i (m : Int) (cast R) (((elN c).length : Nat) : Int) b) (fun i _ => cast (leftR R 0 c (i + 1))) (fun i b => b = cast (leftR R 0 c i)) (N := R.length) ?_ (fun i a hi h => rfl) R.length 0 [] (by omega) rfl ?_
        · intro i b hi hb' h
          have hl := leftR_length R 0 c i
          have hal : b.length ≤ 8 := by rw [hb', cast_length]; omega
          rw [leftR_succ, if_neg (by rw [Nat.zero_testBit]; decide), cast_append, ← hb'] at h
          refine Ev.step (f := fun k => (spec_l7Pack.f k ((row R i : Nat) : Int) (c : Int)).bind fun t => spec_DropAttributes.l0 k (c : Int) ((i + 1 : Nat) : Int) (m : Int) (cast R) (((elN c).length : Nat) : Int) (b ++ [t])) (fun k => ?_) ?_
          · simp only [spec_DropAttributes.l0]
            rw [if_pos (by rw [cast_length]; omega), if_pos (by omega), wrap_succ hi (by omega), rd_row]
            simp only [if_pos (show b.length < 17592186044416 by omega)]
          · exact Ev.bind (packS_val (hrow i) hd) h
        · intro b _ hb'
          refine Ev.step (f := fun _ => some ((((elN c).length : Nat) : Int), b, true)) (fun k => ?_) ?_
          · simp only [spec_DropAttributes.l0]
            rw [if_neg (by rw [cast_length]; omega)]
          · rw [hb']; exact Ev.now _
end Go.Proofs.Ytemhlblajnlogaa.Pu
