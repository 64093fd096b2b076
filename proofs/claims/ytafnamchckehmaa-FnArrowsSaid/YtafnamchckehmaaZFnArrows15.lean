/- What the law needs of the program's functions as plain functions, of the proofs that their calls answer so, and of plain laws: gathered by a program of this place (pack.py) out of its printed texts. No condition beyond what each statement says. -/
import Derived.Test.YtafnamchckehmaaZFnArrows6
import Derived.Test.YtafnamchckehmaaZFnArrows11
import Derived.Test.YtafnamchckehmaaZFnArrows10
import Derived.Test.YtafnamchckehmaaZFnArrows8
import Derived.Test.YtafnamchckehmaaZFnArrows12
import Derived.Test.YtafnamchckehmaaZFnArrows7
import Derived.Test.YtafnamchckehmaaZFnArrows9
import Derived.Test.YtafnamchckehmaaZFnArrows13
namespace Go.Proofs.Ytafnamchckehmaa.Pu
open Go.RowKit Go.Proofs.YtafnamchckehmaaW.PrintWords Go.Proofs.YtafnamchckehmaaW.PrintLast Go.Proofs.YtafnamchckehmaaW.PrintMore Go.Proofs.Ytafnamchckehmaa.Pr
def ctxB (n : Int) (l : List Int) : Bool := decide (0 ≤ n ∧ n ≤ 6) && decide ((l.length : Int) ≤ 8) && l.all (isSetB n)
theorem ctxI_val (n : Int) (l : List Int) : impl_IsContext.f n l = some (ctxB n l) := rfl
theorem ctxS_loop (n : Int) (l : List Int) (hl : l.length ≤ 9223372036854775807) : ∀ (rest : List Int) (i : Nat), l.drop i = rest → Ev (fun k => spec_IsContext.l0 k (i : Int) n l) (decide (0 ≤ n ∧ n ≤ 6) && decide ((l.length : Int) ≤ 8) && rest.all (isSetB n)) := by
  intro rest
  induction rest with
  | nil =>
    intro i h
    have := drop_nil h
    refine Ev.step (f := fun _ => some (decide (0 ≤ n ∧ n ≤ 6) && decide ((l.length : Int) ≤ 8))) (fun k => ?_) ?_
    · simp only [spec_IsContext.l0]
      rw [if_neg (by omega), l1In_val, Option.bind_some]
      by_cases h6 : 0 ≤ n ∧ n ≤ 6
      · rw [decide_eq_true h6]; rfl
      · rw [decide_eq_false h6]; rfl
    · rw [List.all_nil, Bool.and_true]; exact Ev.now _
  | cons x rest ih =>
    intro i h
    obtain ⟨hi, hx, hd⟩ := drop_cons (d := 0) h
    cases hq : isSetB n x with
    | true =>
      refine Ev.step (f := fun k => spec_IsContext.l0 k ((i + 1 : Nat) : Int) n l) (fun k => ?_) ?_
      · simp only [spec_IsContext.l0]
        rw [if_pos (by omega), if_pos (by omega), rd_nat, hx, specSet_val, Option.bind_some, hq, if_pos rfl, wrap_succ hi hl]
      · rw [List.all_cons, hq, Bool.true_and]; exact ih (i + 1) hd
    | false =>
      refine Ev.step (f := fun _ => some false) (fun k => ?_) ?_
      · simp only [spec_IsContext.l0]
        rw [if_pos (by omega), if_pos (by omega), rd_nat, hx, specSet_val, Option.bind_some, hq, if_neg (by decide)]
      · rw [List.all_cons, hq, Bool.false_and, Bool.and_false]; exact Ev.now _
theorem ctxS_val (n : Int) (l : List Int) (hl : l.length ≤ 9223372036854775807) : Ev (fun k => spec_IsContext.f k n l) (ctxB n l) := ctxS_loop n l hl l 0 rfl
theorem ctxB_nat {n : Int} {l : List Int} (h : ctxB n l = true) : ∃ (m : Nat) (R : List Nat), n = (m : Int) ∧ m ≤ 6 ∧ l = cast R ∧ R.length ≤ 8 ∧ ∀ r ∈ R, r < 2 ^ m := by
  unfold ctxB at h
  rw [Bool.and_eq_true, Bool.and_eq_true, decide_eq_true_iff, decide_eq_true_iff, List.all_eq_true] at h
  obtain ⟨⟨h1, h2⟩, h3⟩ := h
  have hx : ∀ x ∈ l, 0 ≤ x ∧ x.toNat < 2 ^ n.toNat := by
    intro x hx
    obtain ⟨m, a, hm, e1, ha, e2⟩ := isSetB_nat (h3 x hx)
    subst e2
    refine ⟨by omega, ?_⟩
    rw [e1, Int.toNat_natCast, Int.toNat_natCast]
    exact ha
  refine ⟨n.toNat, l.map Int.toNat, by omega, by omega, cast_of fun x h => (hx x h).1, by rw [List.length_map]; omega, fun r hr => ?_⟩
  obtain ⟨x, hx', rfl⟩ := List.mem_map.1 hr
  exact (hx x hx').2
theorem ctxB_mk {m : Nat} (hm : m ≤ 6) {R : List Nat} (hR : R.length ≤ 8) (hb : ∀ r ∈ R, r < 2 ^ m) : ctxB (m : Int) (cast R) = true := by
  unfold ctxB
  rw [decide_eq_true (by omega), decide_eq_true (by rw [cast_length]; omega), Bool.true_and, Bool.true_and, List.all_eq_true]
  intro x hx
  unfold cast at hx
  obtain ⟨r, hr, rfl⟩ := List.mem_map.1 hx
  exact isSetB_mk (by omega) (hb r hr)
end Go.Proofs.Ytafnamchckehmaa.Pu
namespace Go.Proofs.Ytafnamchckehmaa.Pu
open Go.RowKit Go.Proofs.YtafnamchckehmaaW.PrintWords Go.Proofs.YtafnamchckehmaaW.PrintLast Go.Proofs.YtafnamchckehmaaW.PrintMore Go.Proofs.Ytafnamchckehmaa.Pr
theorem objI_val (n : Int) (l : List Int) (hl : l.length ≤ 1048576) (g : Int) : impl_isObject.f n l g = some (ctxB n l && decide (0 ≤ g ∧ g < (l.length : Int))) := by
  unfold impl_isObject.f
  rw [ctxI_val, Option.bind_some]
  cases ctxB n l with
  | false => rfl
  | true =>
    rw [if_pos rfl, within_val, Option.bind_some, Bool.true_and, show wrap64 ((l.length : Int) - 1) = (l.length : Int) - 1 from by unfold wrap64; omega]
    refine congrArg some ?_
    rw [decide_eq_decide]
    omega
theorem beyI_val (L : List Nat) (hl : L.length ≤ 8) (hL : ∀ i, row L i < 256) (s f : Nat) (hs : s < 256) (hf : f < 256) : Ev (fun k => impl_beyond.f k (cast L) (s : Int) (f : Int)) ((bey L s f : Nat) : Int) := beyI_big L (by omega) hL s f hs hf
def redObjV (n : Int) (l : List Int) (g : Int) : Bool := ctxB n l && decide (0 ≤ g ∧ g < (l.length : Int)) && decide (bey (l.map Int.toNat) (row (l.map Int.toNat) g.toNat) (full n.toNat) = row (l.map Int.toNat) g.toNat)
theorem redObj_nat {m : Nat} {R : List Nat} (h : ctxB (m : Int) (cast R) = true) {g : Nat} (hg : g < R.length) : redObjV (m : Int) (cast R) (g : Int) = decide (bey R (row R g) (full m) = row R g) := by
  unfold redObjV
  rw [h, uncast, Int.toNat_natCast, Int.toNat_natCast, cast_length, decide_eq_true (show 0 ≤ (g : Int) ∧ (g : Int) < (R.length : Int) by omega)]
  simp
theorem redObjI_val (n : Int) (l : List Int) (hl : l.length ≤ 1048576) (g : Int) : Ev (fun k => impl_IsReducibleObject.f k n l g) (redObjV n l g) := by
  unfold impl_IsReducibleObject.f
  rw [objI_val n l hl g]
  simp only [Option.bind_some]
  cases h : ctxB n l && decide (0 ≤ g ∧ g < (l.length : Int)) with
  | false =>
    unfold redObjV
    rw [h, Bool.false_and]
    exact Ev.congr (fun k => by rw [if_neg (by decide)]) (Ev.now _)
  | true =>
    rw [Bool.and_eq_true, decide_eq_true_iff] at h
    obtain ⟨hc, h0, h1⟩ := h
    obtain ⟨m, R, rfl, hm, rfl, hR, hb⟩ := ctxB_nat hc
    obtain ⟨g', rfl⟩ : ∃ g' : Nat, g = (g' : Int) := ⟨g.toNat, by omega⟩
    rw [cast_length] at h1
    have hrow := fun i => lt_256 (show m ≤ 8 by omega) (row_lt hb i)
    rw [redObj_nat hc (by omega)]
    refine Ev.congr (fun k => by rw [if_pos rfl, if_pos h0, if_pos (by rw [cast_length]; exact h1), fullI_val, Option.bind_some, fullN (by omega), rd_row]) ?_
    refine Ev.bind (beyI_val R hR hrow _ _ (hrow g') (full_256 (by omega))) ?_
    refine Ev.congr (fun k => ?_) (Ev.now _)
    refine congrArg some ?_
    rw [Bool.eq_iff_iff, beq_iff_eq, decide_eq_true_iff]
    omega
theorem redObjS_val (n : Int) (l : List Int) (hl : l.length ≤ 1048576) (g : Int) : Ev (fun k => spec_IsReducibleObject.f k n l g) (redObjV n l g) := by
  unfold spec_IsReducibleObject.f
  refine Ev.bind (ctxS_val n l (by omega)) ?_
  cases hc : ctxB n l with
  | false =>
    unfold redObjV
    rw [hc, Bool.false_and, Bool.false_and]
    refine Ev.congr (fun k => by rw [if_neg (by decide)]) ?_
    refine Ev.step (f := fun _ => some false) (fun k => ?_) (Ev.now _)
    simp only [spec_IsReducibleObject.j0]
    rw [if_true]
  | true =>
    refine Ev.congr (fun k => by rw [if_pos rfl, l1In_val, Option.bind_some, show wrap64 ((l.length : Int) - 1) = (l.length : Int) - 1 from by unfold wrap64; omega]) ?_
    by_cases hg : 0 ≤ g ∧ g < (l.length : Int)
    · rw [decide_eq_true (show 0 ≤ g ∧ g ≤ (l.length : Int) - 1 by omega)]
      obtain ⟨m, R, rfl, hm, rfl, hR, hb⟩ := ctxB_nat hc
      obtain ⟨g', rfl⟩ : ∃ g' : Nat, g = (g' : Int) := ⟨g.toNat, by omega⟩
      have h1 := hg.2
      rw [cast_length] at h1
      have hrow := fun i => lt_256 (show m ≤ 8 by omega) (row_lt hb i)
      rw [redObj_nat hc (by omega)]
      refine Ev.step (f := fun k => spec_IsReducibleObject.l0 k (g' : Int) ((full m : Nat) : Int) ((0 : Nat) : Int) (m : Int) (cast R)) (fun k => ?_) ?_
      · simp only [spec_IsReducibleObject.j0]
        rw [if_neg (by decide), fullS_val, Option.bind_some, fullN (by omega)]
        rfl
      · refine ev_fold (g := fun k (a : Nat) i => spec_IsReducibleObject.l0 k (g' : Int) (a : Int) i (m : Int) (cast R)) (byStep R (row R g')) (fun _ a => a < 256) (N := R.length) ?_ (fun i a _ h => Nat.lt_of_le_of_lt (byStep_le R _ i a) h) R.length 0 (full m) (by omega) (full_256 (by omega)) ?_
        · intro i a hi ha h
          refine Ev.step (fun k => ?_) h
          simp only [spec_IsReducibleObject.l0]
          rw [if_pos (by rw [cast_length]; omega), if_pos (by omega), if_pos (by omega), if_pos (by rw [cast_length]; omega), rd_row, rd_row, wrap_succ hi (by omega)]
          unfold byStep
          by_cases h1 : row R i = row R g'
          · rw [if_pos (by rw [h1]), if_neg (fun h => h.1 h1)]
          · rw [if_neg (by omega)]
            by_cases h2 : sub (row R g') (row R i) = true
            · rw [if_pos ((and_is (hrow g') (hrow i)).2 h2), if_pos ⟨h1, h2⟩, and_nat (by omega) (by have := hrow i; omega)]
            · rw [if_neg (fun h => h2 ((and_is (hrow g') (hrow i)).1 h)), if_neg (fun h => h2 h.2)]
        · intro b hb' _
          refine Ev.step (f := fun _ => some (decide (bey R (row R g') (full m) = row R g'))) (fun k => ?_) (Ev.now _)
          simp only [spec_IsReducibleObject.l0]
          rw [if_neg (by rw [cast_length]; omega), if_pos (by omega), if_pos (by rw [cast_length]; omega), rd_row, hb']
          refine congrArg some ?_
          rw [Bool.eq_iff_iff, beq_iff_eq, decide_eq_true_iff]
          exact Int.natCast_inj
    · rw [decide_eq_false (show ¬ (0 ≤ g ∧ g ≤ (l.length : Int) - 1) by omega)]
      unfold redObjV
      rw [hc, decide_eq_false hg, Bool.and_false, Bool.false_and]
      refine Ev.step (f := fun _ => some false) (fun k => ?_) (Ev.now _)
      simp only [spec_IsReducibleObject.j0, Bool.not_false]
      rw [if_true]
end Go.Proofs.Ytafnamchckehmaa.Pu
namespace Go.Proofs.Ytafnamchckehmaa.Pu
open Go.RowKit Go.Proofs.YtafnamchckehmaaW.PrintWords Go.Proofs.YtafnamchckehmaaW.PrintLast Go.Proofs.YtafnamchckehmaaW.PrintMore Go.Proofs.Ytafnamchckehmaa.Pr
theorem col_lt (R : List Nat) (m : Nat) : col R m < 2 ^ R.length := ofBits_lt _ _
theorem colS_val (R : List Nat) (hR : R.length ≤ 8) (hrow : ∀ i, row R i < 256) (n : Int) (m : Nat) (hm : m ≤ 8) : Ev (fun k => spec_l3Column.f k n (cast R) (m : Int)) ((col R m : Nat) : Int) := by
  unfold spec_l3Column.f
  refine ev_fold (g := fun k (a : Nat) i => spec_l3Column.l0 k (m : Int) (a : Int) i n (cast R)) (bitStep fun g => (row R g).testBit m) (fun _ a => a < 2 ^ R.length) (N := R.length) ?_ (fun i a hi h => bitStep_lt hi h) R.length 0 0 (by omega) (Nat.two_pow_pos _) ?_
  · intro i a hi ha h
    have ha' := lt_256 hR ha
    refine Ev.step (fun k => ?_) h
    simp only [spec_l3Column.l0]
    rw [if_pos (by rw [cast_length]; omega), if_pos (by omega), rd_row, l2Has_val _ _ (by have := hrow i; omega) (by omega), Option.bind_some, wrap_succ hi (by omega), wrapU_small _ (by omega) (by omega)]
    unfold bitStep
    dsimp only
    by_cases hb : (row R i).testBit m = true
    · rw [if_pos hb, if_pos (by omega), if_pos hb, or_bit ha' (by omega)]
    · rw [if_neg hb, if_neg hb]
  · intro b hb _
    refine Ev.step (f := fun _ => some (b : Int)) (fun k => ?_) ?_
    · simp only [spec_l3Column.l0]
      rw [if_neg (by rw [cast_length]; omega)]
    · rw [hb, fold_bits]; exact Ev.now _
def attrB (n : Int) (l : List Int) (m : Int) : Bool := ctxB n l && decide (0 ≤ m ∧ m < n)
theorem attrI_val (n : Int) (l : List Int) (m : Int) : impl_isAttribute.f n l m = some (attrB n l m) := by
  unfold impl_isAttribute.f attrB
  rw [ctxI_val, Option.bind_some]
  cases h : ctxB n l with
  | false => rfl
  | true =>
    obtain ⟨q, R, rfl, hq, _⟩ := ctxB_nat h
    rw [if_pos rfl, within_val, Option.bind_some, Bool.true_and, show wrap64 ((q : Int) - 1) = (q : Int) - 1 from by unfold wrap64; omega]
    refine congrArg some ?_
    rw [decide_eq_decide]
    omega
theorem attr_nat {n : Int} {l : List Int} {g : Int} (h : attrB n l g = true) : ∃ (m : Nat) (R : List Nat) (g' : Nat), n = (m : Int) ∧ m ≤ 6 ∧ l = cast R ∧ R.length ≤ 8 ∧ (∀ r ∈ R, r < 2 ^ m) ∧ g = (g' : Int) ∧ g' < m ∧ n.toNat = m ∧ l.map Int.toNat = R ∧ g.toNat = g' := by
  unfold attrB at h
  rw [Bool.and_eq_true, decide_eq_true_iff] at h
  obtain ⟨hc, h0, h1⟩ := h
  obtain ⟨m, R, rfl, hm, rfl, hR, hb⟩ := ctxB_nat hc
  exact ⟨m, R, g.toNat, rfl, hm, rfl, hR, hb, by omega, by omega, Int.toNat_natCast m, uncast R, rfl⟩
theorem colI_loop (R : List Nat) (hR : R.length ≤ 8) (hrow : ∀ i, row R i < 256) (m : Nat) (hm : m ≤ 8) : Ev (fun k => impl_ColumnOf.l0 k (m : Int) 0 (cast R) ((cast R).length : Int) 0) ((col R m : Nat) : Int) := by
  refine ev_fold (g := fun k (a : Nat) i => impl_ColumnOf.l0 k (m : Int) (a : Int) (cast R) ((cast R).length : Int) i) (bitStep fun g => (row R g).testBit m) (fun _ a => a < 2 ^ R.length) (N := R.length) ?_ (fun i a hi h => bitStep_lt hi h) R.length 0 0 (by omega) (Nat.two_pow_pos _) ?_
  · intro i a hi ha h
    have ha' := lt_256 hR ha
    refine Ev.step (fun k => ?_) h
    simp only [impl_ColumnOf.l0]
    rw [if_pos (by rw [cast_length]; omega), if_pos (by omega), if_pos (by rw [cast_length]; omega), if_pos (by omega), rd_row, bit01 _ _ (by have := hrow i; omega) (by omega), or_shl ha' (by omega), wrap_succ hi (by omega)]
    rfl
  · intro b hb _
    refine Ev.step (f := fun _ => some (b : Int)) (fun k => ?_) ?_
    · simp only [impl_ColumnOf.l0]
      rw [if_neg (by rw [cast_length]; omega)]
    · rw [hb, fold_bits]; exact Ev.now _
theorem colI_val {n : Int} {l : List Int} {m : Nat} {R : List Nat} {g : Nat} (h : ctxB n l = true) (e : n = (m : Int)) (e' : l = cast R) (hm : m ≤ 6) (hR : R.length ≤ 8) (hb : ∀ r ∈ R, r < 2 ^ m) (hg : g < m) : Ev (fun k => impl_ColumnOf.f k n l (g : Int)) ((col R g : Nat) : Int) := by
  unfold impl_ColumnOf.f
  have ha : attrB n l (g : Int) = true := by unfold attrB; rw [h, Bool.true_and, decide_eq_true_iff]; omega
  refine Ev.congr (fun k => by rw [attrI_val, ha, Option.bind_some, if_pos rfl, e']) ?_
  exact colI_loop R hR (fun i => lt_256 (show m ≤ 8 by omega) (row_lt hb i)) g (by omega)
def cols (m : Nat) (R : List Nat) : List Nat := (List.range m).map (col R)
theorem cols_length (m : Nat) (R : List Nat) : (cols m R).length = m := by unfold cols; rw [List.length_map, List.length_range]
theorem row_cols {m i : Nat} (R : List Nat) (h : i < m) : row (cols m R) i = col R i := by
  unfold row cols
  rw [List.getD_eq_getElem?_getD, List.getElem?_map, List.getElem?_range h]
  rfl
theorem cols_lt {m : Nat} {R : List Nat} : ∀ r ∈ cols m R, r < 2 ^ R.length := by
  intro r hr
  obtain ⟨i, _, rfl⟩ := List.mem_map.1 hr
  exact col_lt R i
theorem colsI_val {n : Int} {l : List Int} {m : Nat} {R : List Nat} (h : ctxB n l = true) (e : n = (m : Int)) (e' : l = cast R) (hm : m ≤ 6) (hR : R.length ≤ 8) (hb : ∀ r ∈ R, r < 2 ^ m) : Ev (fun k => impl_columns.f k n l) (cast (cols m R)) := by
  unfold impl_columns.f
  subst e
  refine ev_fold (g := fun k (a : List Int) i => impl_columns.l0 k a (m : Int) i (m : Int) l) (fun i a => a ++ [((col R i : Nat) : Int)]) (fun i a => a = cast ((List.range i).map (col R))) (N := m) ?_ ?_ m 0 [] (by omega) rfl ?_
  · intro i a hi ha h'
    have hl : a.length ≤ 8 := by rw [ha, cast_length, List.length_map, List.length_range]; omega
    refine Ev.step (f := fun k => (impl_ColumnOf.f k (m : Int) l (i : Int)).bind fun t => impl_columns.l0 k (a ++ [t]) (m : Int) ((i + 1 : Nat) : Int) (m : Int) l) (fun k => ?_) ?_
    · simp only [impl_columns.l0]
      rw [if_pos (by omega), wrap_succ hi (by omega)]
      simp only [if_pos (show a.length < 17592186044416 by omega)]
    · exact Ev.bind (colI_val h rfl e' hm hR hb hi) h'
  · intro i a hi ha
    rw [ha, List.range_succ, List.map_append]
    unfold cast
    rw [List.map_append]
    rfl
  · intro b _ hb'
    refine Ev.step (f := fun _ => some b) (fun k => ?_) ?_
    · simp only [impl_columns.l0]
      rw [if_neg (by omega)]
    · rw [hb']; exact Ev.now _
end Go.Proofs.Ytafnamchckehmaa.Pu
namespace Go.Proofs.Ytafnamchckehmaa.Pu
open Go.RowKit Go.Proofs.YtafnamchckehmaaW.PrintWords Go.Proofs.YtafnamchckehmaaW.PrintLast Go.Proofs.YtafnamchckehmaaW.PrintMore Go.Proofs.Ytafnamchckehmaa.Pr
def redAttrV (n : Int) (l : List Int) (g : Int) : Bool := attrB n l g && decide (bey (cols n.toNat (l.map Int.toNat)) (col (l.map Int.toNat) g.toNat) (full l.length) = col (l.map Int.toNat) g.toNat)
theorem redAttrI_val (n : Int) (l : List Int) (_hl : l.length ≤ 1048576) (g : Int) : Ev (fun k => impl_IsReducibleAttribute.f k n l g) (redAttrV n l g) := by
  unfold impl_IsReducibleAttribute.f redAttrV
  rw [attrI_val]
  simp only [Option.bind_some]
  cases h : attrB n l g with
  | false => exact Ev.congr (fun k => by rw [if_neg (by decide), Bool.false_and]) (Ev.now _)
  | true =>
    have hc : ctxB n l = true := by unfold attrB at h; rw [Bool.and_eq_true] at h; exact h.1
    obtain ⟨m, R, g', rfl, hm, rfl, hR, hb, rfl, hg, e1, e2, e3⟩ := attr_nat h
    rw [e1, e2, e3, Bool.true_and, cast_length]
    refine Ev.congr (fun k => by rw [if_pos rfl]) ?_
    refine Ev.bind (colsI_val hc rfl rfl hm hR hb) ?_
    refine Ev.bind (colI_val hc rfl rfl hm hR hb hg) ?_
    refine Ev.congr (fun k => by rw [fullI_val, Option.bind_some, fullN (by omega)]) ?_
    refine Ev.bind (beyI_val (cols m R) (by rw [cols_length]; omega) (fun i => lt_256 hR (row_lt cols_lt i)) _ _ (lt_256 hR (col_lt R g')) (full_256 hR)) ?_
    refine Ev.bind (colI_val hc rfl rfl hm hR hb hg) ?_
    refine Ev.congr (fun k => ?_) (Ev.now _)
    refine congrArg some ?_
    rw [Bool.eq_iff_iff, beq_iff_eq, decide_eq_true_iff]
    exact Int.natCast_inj
theorem l1In_attr {n : Int} (hn : 0 ≤ n ∧ n ≤ 6) (g : Int) : spec_l1In.f g 0 (wrap64 (n - 1)) = some (decide (0 ≤ g ∧ g < n)) := by
  rw [l1In_val, show wrap64 (n - 1) = n - 1 from by unfold wrap64; omega]
  refine congrArg some ?_
  rw [decide_eq_decide]
  omega
theorem ctxB_n {n : Int} {l : List Int} (h : ctxB n l = true) : 0 ≤ n ∧ n ≤ 6 := by
  unfold ctxB at h
  rw [Bool.and_eq_true, Bool.and_eq_true, decide_eq_true_iff] at h
  exact h.1.1
theorem redAttrS_val (n : Int) (l : List Int) (hl : l.length ≤ 1048576) (g : Int) : Ev (fun k => spec_IsReducibleAttribute.f k n l g) (redAttrV n l g) := by
  unfold spec_IsReducibleAttribute.f
  refine Ev.bind (ctxS_val n l (by omega)) ?_
  cases hc : ctxB n l with
  | false =>
    unfold redAttrV attrB
    rw [hc, Bool.false_and, Bool.false_and]
    refine Ev.congr (fun k => by rw [if_neg (by decide)]) ?_
    refine Ev.step (f := fun _ => some false) (fun k => ?_) (Ev.now _)
    simp only [spec_IsReducibleAttribute.j0]
    rw [if_true]
  | true =>
    refine Ev.congr (fun k => by rw [if_pos rfl, l1In_attr (ctxB_n hc), Option.bind_some]) ?_
    rw [show decide (0 ≤ g ∧ g < n) = attrB n l g from by unfold attrB; rw [hc]; rfl]
    unfold redAttrV
    cases h : attrB n l g with
    | false =>
      rw [Bool.false_and]
      refine Ev.step (f := fun _ => some false) (fun k => ?_) (Ev.now _)
      simp only [spec_IsReducibleAttribute.j0, Bool.not_false]
      rw [if_true]
    | true =>
      obtain ⟨m, R, g', rfl, hm, rfl, hR, hb, rfl, hg, e1, e2, e3⟩ := attr_nat h
      rw [e1, e2, e3, Bool.true_and, cast_length]
      have hrow := fun i => lt_256 (show m ≤ 8 by omega) (row_lt hb i)
      have hcol := fun i => lt_256 hR (col_lt R i)
      refine Ev.step (f := fun k => (spec_l3Column.f k (m : Int) (cast R) (g' : Int)).bind fun t => spec_IsReducibleAttribute.l0 k t ((full R.length : Nat) : Int) ((0 : Nat) : Int) (m : Int) (cast R)) (fun k => ?_) ?_
      · simp only [spec_IsReducibleAttribute.j0]
        rw [if_neg (by decide), fullS_val, cast_length, fullN hR]
        rfl
      · refine Ev.bind (colS_val R hR hrow _ g' (by omega)) ?_
        refine ev_fold (g := fun k (a : Nat) i => spec_IsReducibleAttribute.l0 k ((col R g' : Nat) : Int) (a : Int) i (m : Int) (cast R)) (byStep (cols m R) (col R g')) (fun _ a => a < 256) (N := m) ?_ (fun i a _ h => Nat.lt_of_le_of_lt (byStep_le _ _ i a) h) m 0 (full R.length) (by omega) (full_256 hR) ?_
        · intro i a hi ha h
          refine Ev.step (f := fun k => (spec_l3Column.f k (m : Int) (cast R) (i : Int)).bind fun t => if t = ((col R g' : Nat) : Int) then spec_IsReducibleAttribute.l0 k ((col R g' : Nat) : Int) (a : Int) ((i + 1 : Nat) : Int) (m : Int) (cast R) else if Go.bits .and .i64 t ((col R g' : Nat) : Int) = ((col R g' : Nat) : Int) then spec_IsReducibleAttribute.l0 k ((col R g' : Nat) : Int) (Go.bits .and .i64 (a : Int) t) ((i + 1 : Nat) : Int) (m : Int) (cast R) else spec_IsReducibleAttribute.l0 k ((col R g' : Nat) : Int) (a : Int) ((i + 1 : Nat) : Int) (m : Int) (cast R)) (fun k => ?_) ?_
          · simp only [spec_IsReducibleAttribute.l0]
            rw [if_pos (by omega), wrap_succ hi (by omega)]
          · refine Ev.bind (colS_val R hR hrow _ i (by omega)) ?_
            unfold byStep at h
            rw [row_cols R hi] at h
            by_cases h1 : col R i = col R g'
            · rw [if_neg (fun h => h.1 h1)] at h
              exact Ev.congr (fun k => by rw [if_pos (by rw [h1])]) h
            · by_cases h2 : sub (col R g') (col R i) = true
              · rw [if_pos ⟨h1, h2⟩] at h
                exact Ev.congr (fun k => by rw [if_neg (by omega), if_pos ((and_is (hcol g') (hcol i)).2 h2), and_nat (by omega) (by have := hcol i; omega)]) h
              · rw [if_neg (fun h => h2 h.2)] at h
                exact Ev.congr (fun k => by rw [if_neg (by omega), if_neg (fun h => h2 ((and_is (hcol g') (hcol i)).1 h))]) h
        · intro b hb' _
          refine Ev.step (f := fun _ => some (decide (bey (cols m R) (col R g') (full R.length) = col R g'))) (fun k => ?_) (Ev.now _)
          simp only [spec_IsReducibleAttribute.l0]
          rw [if_neg (by omega), hb']
          refine congrArg some ?_
          rw [Bool.eq_iff_iff, beq_iff_eq, decide_eq_true_iff]
          unfold bey
          rw [cols_length]
          exact Int.natCast_inj
def irrAttrV (n : Int) (l : List Int) (g : Int) : Bool := attrB n l g && !redAttrV n l g
theorem irrAttrI_val (n : Int) (l : List Int) (hl : l.length ≤ 1048576) (g : Int) : Ev (fun k => impl_IsIrreducibleAttribute.f k n l g) (irrAttrV n l g) := by
  unfold impl_IsIrreducibleAttribute.f irrAttrV
  rw [attrI_val]
  simp only [Option.bind_some]
  cases attrB n l g with
  | false => exact Ev.congr (fun k => by rw [if_neg (by decide), Bool.false_and]) (Ev.now _)
  | true =>
    refine Ev.congr (fun k => by rw [if_pos rfl]) ?_
    exact Ev.bind (redAttrI_val n l hl g) (Ev.now _)
theorem irrAttrS_val (n : Int) (l : List Int) (hl : l.length ≤ 1048576) (g : Int) : Ev (fun k => spec_IsIrreducibleAttribute.f k n l g) (irrAttrV n l g) := by
  unfold spec_IsIrreducibleAttribute.f irrAttrV
  refine Ev.bind (ctxS_val n l (by omega)) ?_
  cases hc : ctxB n l with
  | false =>
    rw [show attrB n l g = false from by unfold attrB; rw [hc]; rfl]
    exact Ev.congr (fun k => by rw [if_neg (by decide), Bool.false_and]) (Ev.now _)
  | true =>
    refine Ev.congr (fun k => by rw [if_pos rfl, l1In_attr (ctxB_n hc), Option.bind_some]) ?_
    rw [show decide (0 ≤ g ∧ g < n) = attrB n l g from by unfold attrB; rw [hc]; rfl]
    cases attrB n l g with
    | false => exact Ev.congr (fun k => by rw [if_neg (by decide), Bool.false_and]) (Ev.now _)
    | true =>
      refine Ev.congr (fun k => by rw [if_pos rfl]) ?_
      exact Ev.bind (redAttrS_val n l hl g) (Ev.now _)
end Go.Proofs.Ytafnamchckehmaa.Pu
namespace Go.Proofs.Ytafnamchckehmaa.Pu
open Go.RowKit Go.Proofs.YtafnamchckehmaaW.PrintWords Go.Proofs.YtafnamchckehmaaW.PrintLast Go.Proofs.YtafnamchckehmaaW.PrintMore Go.Proofs.Ytafnamchckehmaa.Pr
def objB (n : Int) (l : List Int) (g : Int) : Bool := ctxB n l && decide (0 ≤ g ∧ g < (l.length : Int))
theorem l1In_obj {l : List Int} (hl : l.length ≤ 1048576) (g : Int) : spec_l1In.f g 0 (wrap64 ((l.length : Int) - 1)) = some (decide (0 ≤ g ∧ g < (l.length : Int))) := by
  rw [l1In_val, show wrap64 ((l.length : Int) - 1) = (l.length : Int) - 1 from by unfold wrap64; omega]
  refine congrArg some ?_
  rw [decide_eq_decide]
  omega
def irrObjV (n : Int) (l : List Int) (g : Int) : Bool := objB n l g && !redObjV n l g
theorem irrObjI_val (n : Int) (l : List Int) (hl : l.length ≤ 1048576) (g : Int) : Ev (fun k => impl_IsIrreducibleObject.f k n l g) (irrObjV n l g) := by
  unfold impl_IsIrreducibleObject.f irrObjV objB
  rw [objI_val n l hl g]
  simp only [Option.bind_some]
  cases ctxB n l && decide (0 ≤ g ∧ g < (l.length : Int)) with
  | false => exact Ev.congr (fun k => by rw [if_neg (by decide), Bool.false_and]) (Ev.now _)
  | true =>
    refine Ev.congr (fun k => by rw [if_pos rfl]) ?_
    exact Ev.bind (redObjI_val n l hl g) (Ev.now _)
theorem irrObjS_val (n : Int) (l : List Int) (hl : l.length ≤ 1048576) (g : Int) : Ev (fun k => spec_IsIrreducibleObject.f k n l g) (irrObjV n l g) := by
  unfold spec_IsIrreducibleObject.f irrObjV objB
  refine Ev.bind (ctxS_val n l (by omega)) ?_
  cases ctxB n l with
  | false => exact Ev.congr (fun k => by rw [if_neg (by decide), Bool.false_and, Bool.false_and]) (Ev.now _)
  | true =>
    refine Ev.congr (fun k => by rw [if_pos rfl, l1In_obj hl, Option.bind_some]) ?_
    rw [Bool.true_and]
    cases decide (0 ≤ g ∧ g < (l.length : Int)) with
    | false => exact Ev.congr (fun k => by rw [if_neg (by decide), Bool.false_and]) (Ev.now _)
    | true =>
      refine Ev.congr (fun k => by rw [if_pos rfl]) ?_
      exact Ev.bind (redObjS_val n l hl g) (Ev.now _)
theorem fold_comm {α : Type} (f : Nat → α → α) (h : α → α) (hc : ∀ i a, f i (h a) = h (f i a)) {N : Nat} : ∀ (d i : Nat) (a : α), i + d = N → foldIdx f i N (h a) = h (foldIdx f i N a) := by
  intro d
  induction d with
  | zero => intro i a h'; rw [foldIdx_end f (by omega), foldIdx_end f (by omega)]
  | succ d ih =>
    intro i a h'
    have hi : i < N := by omega
    rw [foldIdx_step f hi (h a), foldIdx_step f hi a, hc]
    exact ih (i + 1) _ (by omega)
theorem diff_and (a b t : Nat) : diff a b &&& t = diff (a &&& t) b := by
  apply Nat.eq_of_testBit_eq
  intro i
  rw [Nat.testBit_and, testBit_diff, testBit_diff, Nat.testBit_and]
  cases a.testBit i <;> cases b.testBit i <;> cases t.testBit i <;> rfl
theorem bey_diff (L : List Nat) (s f r : Nat) : bey L s (diff f r) = diff (bey L s f) r := by
  refine fold_comm (byStep L s) (fun a => diff a r) (fun i a => ?_) L.length 0 f (by omega)
  unfold byStep
  by_cases h : row L i ≠ s ∧ sub s (row L i) = true
  · rw [if_pos h, if_pos h, diff_and]
  · rw [if_neg h, if_neg h]
def downN (m : Nat) (R : List Nat) (g : Nat) : Nat := diff (bey R (row R g) (full m)) (row R g)
theorem downN_lt (m : Nat) (R : List Nat) (g : Nat) : downN m R g < 2 ^ m := Nat.lt_of_le_of_lt (diff_le _ _) (Nat.lt_of_le_of_lt (bey_le _ _ _) (full_lt m))
def downV (n : Int) (l : List Int) (g : Int) : Int := if objB n l g = true then ((downN n.toNat (l.map Int.toNat) g.toNat : Nat) : Int) else 0
theorem obj_nat {n : Int} {l : List Int} {g : Int} (h : objB n l g = true) : ∃ (m : Nat) (R : List Nat) (g' : Nat), n = (m : Int) ∧ m ≤ 6 ∧ l = cast R ∧ R.length ≤ 8 ∧ (∀ r ∈ R, r < 2 ^ m) ∧ g = (g' : Int) ∧ g' < R.length ∧ n.toNat = m ∧ l.map Int.toNat = R ∧ g.toNat = g' := by
  unfold objB at h
  rw [Bool.and_eq_true, decide_eq_true_iff] at h
  obtain ⟨hc, h0, h1⟩ := h
  obtain ⟨m, R, rfl, hm, rfl, hR, hb⟩ := ctxB_nat hc
  rw [cast_length] at h1
  exact ⟨m, R, g.toNat, rfl, hm, rfl, hR, hb, by omega, by omega, Int.toNat_natCast m, uncast R, rfl⟩
theorem downI_val (n : Int) (l : List Int) (hl : l.length ≤ 1048576) (g : Int) : Ev (fun k => impl_DownArrows.f k n l g) (downV n l g) := by
  unfold impl_DownArrows.f downV
  rw [objI_val n l hl g]
  simp only [Option.bind_some]
  rw [show (ctxB n l && decide (0 ≤ g ∧ g < (l.length : Int))) = objB n l g from rfl]
  cases h : objB n l g with
  | false => exact Ev.congr (fun k => by rw [if_neg (by decide), if_neg (by decide)]) (Ev.now _)
  | true =>
    obtain ⟨m, R, g', rfl, hm, rfl, hR, hb, rfl, hg, e1, e2, e3⟩ := obj_nat h
    rw [e1, e2, e3, if_pos rfl]
    have hrow := fun i => lt_256 (show m ≤ 8 by omega) (row_lt hb i)
    refine Ev.congr (fun k => by rw [if_pos rfl, if_pos (by omega), if_pos (by rw [cast_length]; omega), fullI_val, Option.bind_some, fullN (by omega), rd_row]) ?_
    refine Ev.bind (beyI_val R hR hrow _ _ (hrow g') (full_256 (by omega))) ?_
    refine Ev.congr (fun k => ?_) (Ev.now _)
    have h1 := bey_le R (row R g') (full m)
    have h2 := full_256 (show m ≤ 8 by omega)
    have h3 := hrow g'
    rw [andNot_nat (by omega) (by omega)]
    rfl
theorem l8Down_val (m : Nat) (hm : m ≤ 6) (R : List Nat) (hR : R.length ≤ 8) (hb : ∀ r ∈ R, r < 2 ^ m) (g : Nat) (hg : g < R.length) : Ev (fun k => spec_l8Down.f k (m : Int) (cast R) (g : Int)) ((downN m R g : Nat) : Int) := by
  unfold spec_l8Down.f
  have hrow := fun i => lt_256 (show m ≤ 8 by omega) (row_lt hb i)
  have h1 := row_lt hb g
  have h2 : full m < 2 ^ m := full_lt m
  have h3 : row R g ≤ full m := by unfold full; omega
  have h4 := full_256 (show m ≤ 8 by omega)
  refine Ev.congr (fun k => by rw [fullS_val, Option.bind_some, fullN (by omega), if_pos (by omega), if_pos (by rw [cast_length]; omega), rd_row, show wrap64 (((full m : Nat) : Int) - ((row R g : Nat) : Int)) = ((full m - row R g : Nat) : Int) from by unfold wrap64; omega, full_sub_row h1]) ?_
  refine ev_fold (g := fun k (a : Nat) i => spec_l8Down.l0 k (g : Int) (a : Int) i (m : Int) (cast R)) (byStep R (row R g)) (fun _ a => a < 256) (N := R.length) ?_ (fun i a _ h => Nat.lt_of_le_of_lt (byStep_le R _ i a) h) R.length 0 (diff (full m) (row R g)) (by omega) (Nat.lt_of_le_of_lt (diff_le _ _) h4) ?_
  · intro i a hi ha h
    refine Ev.step (fun k => ?_) h
    simp only [spec_l8Down.l0]
    rw [if_pos (by rw [cast_length]; omega), if_pos (by omega), if_pos (by omega), if_pos (by rw [cast_length]; omega), rd_row, rd_row, wrap_succ hi (by omega)]
    unfold byStep
    by_cases h1 : row R i = row R g
    · rw [if_pos (by rw [h1]), if_neg (fun h => h.1 h1)]
    · rw [if_neg (by omega)]
      by_cases h2 : sub (row R g) (row R i) = true
      · rw [if_pos ((and_is (hrow g) (hrow i)).2 h2), if_pos ⟨h1, h2⟩, and_nat (by omega) (by have := hrow i; omega)]
      · rw [if_neg (fun h => h2 ((and_is (hrow g) (hrow i)).1 h)), if_neg (fun h => h2 h.2)]
  · intro b hb' _
    refine Ev.step (f := fun _ => some (b : Int)) (fun k => ?_) ?_
    · simp only [spec_l8Down.l0]
      rw [if_neg (by rw [cast_length]; omega)]
    · rw [hb', show foldIdx (byStep R (row R g)) 0 R.length (diff (full m) (row R g)) = downN m R g from bey_diff R _ _ _]; exact Ev.now _
theorem downS_val (n : Int) (l : List Int) (hl : l.length ≤ 1048576) (g : Int) : Ev (fun k => spec_DownArrows.f k n l g) (downV n l g) := by
  unfold spec_DownArrows.f downV
  refine Ev.bind (ctxS_val n l (by omega)) ?_
  cases hc : ctxB n l with
  | false =>
    rw [show objB n l g = false from by unfold objB; rw [hc]; rfl]
    exact Ev.congr (fun k => by rw [if_neg (by decide), if_neg (by decide)]) (Ev.now _)
  | true =>
    refine Ev.congr (fun k => by rw [if_pos rfl, l1In_obj hl, Option.bind_some]) ?_
    rw [show decide (0 ≤ g ∧ g < (l.length : Int)) = objB n l g from by unfold objB; rw [hc]; rfl]
    cases h : objB n l g with
    | false => exact Ev.congr (fun k => by rw [if_neg (by decide), if_neg (by decide)]) (Ev.now _)
    | true =>
      obtain ⟨m, R, g', rfl, hm, rfl, hR, hb, rfl, hg, e1, e2, e3⟩ := obj_nat h
      rw [e1, e2, e3, if_pos rfl]
      refine Ev.congr (fun k => by rw [if_pos rfl]) ?_
      exact Ev.bind (l8Down_val m hm R hR hb g' hg) (Ev.now _)
end Go.Proofs.Ytafnamchckehmaa.Pu
