/- What the law needs of the program's functions as plain functions, of the proofs that their calls answer so, and of plain laws: gathered by a program of this place (pack.py) out of its printed texts. No condition beyond what each statement says. -/
import Derived.Test.YtafnamchckehmaaZFnReduced3
import Derived.Test.YtafnamchckehmaaZFnReduced5
import Derived.Test.YtafnamchckehmaaZFnReduced11
import Derived.Test.YtafnamchckehmaaZFnReduced10
import Derived.Test.YtafnamchckehmaaZFnReduced6
import Derived.Test.YtafnamchckehmaaZFnReduced7
import Derived.Test.YtafnamchckehmaaZFnReduced9
import Derived.Test.YtafnamchckehmaaZFnReduced12
namespace Go.Proofs.Ytafnamchckehmaa.Pu
open Go.RowKit Go.Proofs.YtafnamchckehmaaW.PrintWords Go.Proofs.YtafnamchckehmaaW.PrintLast Go.Proofs.YtafnamchckehmaaW.PrintMore Go.Proofs.Ytafnamchckehmaa.Pr
def ctxB (n : Int) (l : List Int) : Bool := decide (0 ≤ n ∧ n ≤ 6) && decide ((l.length : Int) ≤ 8) && l.all (isSetB n)
theorem ctxI_val (n : Int) (l : List Int) : impl_IsContext.f n l = some (ctxB n l) := rfl
theorem ctxS_loop (n : Int) (l : List Int) (hl : l.length ≤ 9223372036854775807) : ∀ (rest : List Int) (i : Nat), l.drop i = rest → Ev (fun k => spec_IsContext.l0 k (i : Int) n l) (decide (0 ≤ n ∧ n ≤ 6) && decide ((l.length : Int) ≤ 8) && rest.all (isSetB n)) := by
  intro rest
  induction rest with
  | nil =>
    intro i h
    have := drop_nil h
    refine Ev.step (f := fun _ => some (decide (0 ≤ n ∧ n ≤ 6) && decide ((l.length : Int) ≤ 8))) (fun k => ?_) ?_
    · simp only [spec_IsContext.l0]
      rw [if_neg (by omega), l1In_val, Option.bind_some]
      by_cases h6 : 0 ≤ n ∧ n ≤ 6
      · rw [decide_eq_true h6]; rfl
      · rw [decide_eq_false h6]; rfl
    · rw [List.all_nil, Bool.and_true]; exact Ev.now _
  | cons x rest ih =>
    intro i h
    obtain ⟨hi, hx, hd⟩ := drop_cons (d := 0) h
    cases hq : isSetB n x with
    | true =>
      refine Ev.step (f := fun k => spec_IsContext.l0 k ((i + 1 : Nat) : Int) n l) (fun k => ?_) ?_
      · simp only [spec_IsContext.l0]
        rw [if_pos (by omega), if_pos (by omega), rd_nat, hx, specSet_val, Option.bind_some, hq, if_pos rfl, wrap_succ hi hl]
      · rw [List.all_cons, hq, Bool.true_and]; exact ih (i + 1) hd
    | false =>
      refine Ev.step (f := fun _ => some false) (fun k => ?_) ?_
      · simp only [spec_IsContext.l0]
        rw [if_pos (by omega), if_pos (by omega), rd_nat, hx, specSet_val, Option.bind_some, hq, if_neg (by decide)]
      · rw [List.all_cons, hq, Bool.false_and, Bool.and_false]; exact Ev.now _
theorem ctxS_val (n : Int) (l : List Int) (hl : l.length ≤ 9223372036854775807) : Ev (fun k => spec_IsContext.f k n l) (ctxB n l) := ctxS_loop n l hl l 0 rfl
theorem ctxB_nat {n : Int} {l : List Int} (h : ctxB n l = true) : ∃ (m : Nat) (R : List Nat), n = (m : Int) ∧ m ≤ 6 ∧ l = cast R ∧ R.length ≤ 8 ∧ ∀ r ∈ R, r < 2 ^ m := by
  unfold ctxB at h
  rw [Bool.and_eq_true, Bool.and_eq_true, decide_eq_true_iff, decide_eq_true_iff, List.all_eq_true] at h
  obtain ⟨⟨h1, h2⟩, h3⟩ := h
  have hx : ∀ x ∈ l, 0 ≤ x ∧ x.toNat < 2 ^ n.toNat := by
    intro x hx
    obtain ⟨m, a, hm, e1, ha, e2⟩ := isSetB_nat (h3 x hx)
    subst e2
    refine ⟨by omega, ?_⟩
    rw [e1, Int.toNat_natCast, Int.toNat_natCast]
    exact ha
  refine ⟨n.toNat, l.map Int.toNat, by omega, by omega, cast_of fun x h => (hx x h).1, by rw [List.length_map]; omega, fun r hr => ?_⟩
  obtain ⟨x, hx', rfl⟩ := List.mem_map.1 hr
  exact (hx x hx').2
theorem ctxB_mk {m : Nat} (hm : m ≤ 6) {R : List Nat} (hR : R.length ≤ 8) (hb : ∀ r ∈ R, r < 2 ^ m) : ctxB (m : Int) (cast R) = true := by
  unfold ctxB
  rw [decide_eq_true (by omega), decide_eq_true (by rw [cast_length]; omega), Bool.true_and, Bool.true_and, List.all_eq_true]
  intro x hx
  unfold cast at hx
  obtain ⟨r, hr, rfl⟩ := List.mem_map.1 hx
  exact isSetB_mk (by omega) (hb r hr)
end Go.Proofs.Ytafnamchckehmaa.Pu
namespace Go.Proofs.Ytafnamchckehmaa.Pu
open Go.RowKit Go.Proofs.YtafnamchckehmaaW.PrintWords Go.Proofs.YtafnamchckehmaaW.PrintLast Go.Proofs.YtafnamchckehmaaW.PrintMore Go.Proofs.Ytafnamchckehmaa.Pr
theorem objI_val (n : Int) (l : List Int) (hl : l.length ≤ 1048576) (g : Int) : impl_isObject.f n l g = some (ctxB n l && decide (0 ≤ g ∧ g < (l.length : Int))) := by
  unfold impl_isObject.f
  rw [ctxI_val, Option.bind_some]
  cases ctxB n l with
  | false => rfl
  | true =>
    rw [if_pos rfl, within_val, Option.bind_some, Bool.true_and, show wrap64 ((l.length : Int) - 1) = (l.length : Int) - 1 from by unfold wrap64; omega]
    refine congrArg some ?_
    rw [decide_eq_decide]
    omega
theorem beyI_val (L : List Nat) (hl : L.length ≤ 8) (hL : ∀ i, row L i < 256) (s f : Nat) (hs : s < 256) (hf : f < 256) : Ev (fun k => impl_beyond.f k (cast L) (s : Int) (f : Int)) ((bey L s f : Nat) : Int) := beyI_big L (by omega) hL s f hs hf
def redObjV (n : Int) (l : List Int) (g : Int) : Bool := ctxB n l && decide (0 ≤ g ∧ g < (l.length : Int)) && decide (bey (l.map Int.toNat) (row (l.map Int.toNat) g.toNat) (full n.toNat) = row (l.map Int.toNat) g.toNat)
theorem redObj_nat {m : Nat} {R : List Nat} (h : ctxB (m : Int) (cast R) = true) {g : Nat} (hg : g < R.length) : redObjV (m : Int) (cast R) (g : Int) = decide (bey R (row R g) (full m) = row R g) := by
  unfold redObjV
  rw [h, uncast, Int.toNat_natCast, Int.toNat_natCast, cast_length, decide_eq_true (show 0 ≤ (g : Int) ∧ (g : Int) < (R.length : Int) by omega)]
  simp
theorem redObjI_val (n : Int) (l : List Int) (hl : l.length ≤ 1048576) (g : Int) : Ev (fun k => impl_IsReducibleObject.f k n l g) (redObjV n l g) := by
  unfold impl_IsReducibleObject.f
  rw [objI_val n l hl g]
  simp only [Option.bind_some]
  cases h : ctxB n l && decide (0 ≤ g ∧ g < (l.length : Int)) with
  | false =>
    unfold redObjV
    rw [h, Bool.false_and]
    exact Ev.congr (fun k => by rw [if_neg (by decide)]) (Ev.now _)
  | true =>
    rw [Bool.and_eq_true, decide_eq_true_iff] at h
    obtain ⟨hc, h0, h1⟩ := h
    obtain ⟨m, R, rfl, hm, rfl, hR, hb⟩ := ctxB_nat hc
    obtain ⟨g', rfl⟩ : ∃ g' : Nat, g = (g' : Int) := ⟨g.toNat, by omega⟩
    rw [cast_length] at h1
    have hrow := fun i => lt_256 (show m ≤ 8 by omega) (row_lt hb i)
    rw [redObj_nat hc (by omega)]
    refine Ev.congr (fun k => by rw [if_pos rfl, if_pos h0, if_pos (by rw [cast_length]; exact h1), fullI_val, Option.bind_some, fullN (by omega), rd_row]) ?_
    refine Ev.bind (beyI_val R hR hrow _ _ (hrow g') (full_256 (by omega))) ?_
    refine Ev.congr (fun k => ?_) (Ev.now _)
    refine congrArg some ?_
    rw [Bool.eq_iff_iff, beq_iff_eq, decide_eq_true_iff]
    omega
theorem redObjS_val (n : Int) (l : List Int) (hl : l.length ≤ 1048576) (g : Int) : Ev (fun k => spec_IsReducibleObject.f k n l g) (redObjV n l g) := by
  unfold spec_IsReducibleObject.f
  refine Ev.bind (ctxS_val n l (by omega)) ?_
  cases hc : ctxB n l with
  | false =>
    unfold redObjV
    rw [hc, Bool.false_and, Bool.false_and]
    refine Ev.congr (fun k => by rw [if_neg (by decide)]) ?_
    refine Ev.step (f := fun _ => some false) (fun k => ?_) (Ev.now _)
    simp only [spec_IsReducibleObject.j0]
    rw [if_true]
  | true =>
    refine Ev.congr (fun k => by rw [if_pos rfl, l1In_val, Option.bind_some, show wrap64 ((l.length : Int) - 1) = (l.length : Int) - 1 from by unfold wrap64; omega]) ?_
    by_cases hg : 0 ≤ g ∧ g < (l.length : Int)
    · rw [decide_eq_true (show 0 ≤ g ∧ g ≤ (l.length : Int) - 1 by omega)]
      obtain ⟨m, R, rfl, hm, rfl, hR, hb⟩ := ctxB_nat hc
      obtain ⟨g', rfl⟩ : ∃ g' : Nat, g = (g' : Int) := ⟨g.toNat, by omega⟩
      have h1 := hg.2
      rw [cast_length] at h1
      have hrow := fun i => lt_256 (show m ≤ 8 by omega) (row_lt hb i)
      rw [redObj_nat hc (by omega)]
      refine Ev.step (f := fun k => spec_IsReducibleObject.l0 k (g' : Int) ((full m : Nat) : Int) ((0 : Nat) : Int) (m : Int) (cast R)) (fun k => ?_) ?_
      · simp only [spec_IsReducibleObject.j0]
        rw [if_neg (by decide), fullS_val, Option.bind_some, fullN (by omega)]
        rfl
      · refine ev_fold (g := fun k (a : Nat) i => spec_IsReducibleObject.l0 k (g' : Int) (a : Int) i (m : Int) (cast R)) (byStep R (row R g')) (fun _ a => a < 256) (N := R.length) ?_ (fun i a _ h => Nat.lt_of_le_of_lt (byStep_le R _ i a) h) R.length 0 (full m) (by omega) (full_256 (by omega)) ?_
        · intro i a hi ha h
          refine Ev.step (fun k => ?_) h
          simp only [spec_IsReducibleObject.l0]
          rw [if_pos (by rw [cast_length]; omega), if_pos (by omega), if_pos (by omega), if_pos (by rw [cast_length]; omega), rd_row, rd_row, wrap_succ hi (by omega)]
          unfold byStep
          by_cases h1 : row R i = row R g'
          · rw [if_pos (by rw [h1]), if_neg (fun h => h.1 h1)]
          · rw [if_neg (by omega)]
            by_cases h2 : sub (row R g') (row R i) = true
            · rw [if_pos ((and_is (hrow g') (hrow i)).2 h2), if_pos ⟨h1, h2⟩, and_nat (by omega) (by have := hrow i; omega)]
            · rw [if_neg (fun h => h2 ((and_is (hrow g') (hrow i)).1 h)), if_neg (fun h => h2 h.2)]
        · intro b hb' _
          refine Ev.step (f := fun _ => some (decide (bey R (row R g') (full m) = row R g'))) (fun k => ?_) (Ev.now _)
          simp only [spec_IsReducibleObject.l0]
          rw [if_neg (by rw [cast_length]; omega), if_pos (by omega), if_pos (by rw [cast_length]; omega), rd_row, hb']
          refine congrArg some ?_
          rw [Bool.eq_iff_iff, beq_iff_eq, decide_eq_true_iff]
          exact Int.natCast_inj
    · rw [decide_eq_false (show ¬ (0 ≤ g ∧ g ≤ (l.length : Int) - 1) by omega)]
      unfold redObjV
      rw [hc, decide_eq_false hg, Bool.and_false, Bool.false_and]
      refine Ev.step (f := fun _ => some false) (fun k => ?_) (Ev.now _)
      simp only [spec_IsReducibleObject.j0, Bool.not_false]
      rw [if_true]
end Go.Proofs.Ytafnamchckehmaa.Pu
namespace Go.Proofs.Ytafnamchckehmaa.Pu
open Go.RowKit Go.Proofs.YtafnamchckehmaaW.PrintWords Go.Proofs.YtafnamchckehmaaW.PrintLast Go.Proofs.YtafnamchckehmaaW.PrintMore Go.Proofs.Ytafnamchckehmaa.Pr
theorem col_lt (R : List Nat) (m : Nat) : col R m < 2 ^ R.length := ofBits_lt _ _
theorem colS_val (R : List Nat) (hR : R.length ≤ 8) (hrow : ∀ i, row R i < 256) (n : Int) (m : Nat) (hm : m ≤ 8) : Ev (fun k => spec_l3Column.f k n (cast R) (m : Int)) ((col R m : Nat) : Int) := by
  unfold spec_l3Column.f
  refine ev_fold (g := fun k (a : Nat) i => spec_l3Column.l0 k (m : Int) (a : Int) i n (cast R)) (bitStep fun g => (row R g).testBit m) (fun _ a => a < 2 ^ R.length) (N := R.length) ?_ (fun i a hi h => bitStep_lt hi h) R.length 0 0 (by omega) (Nat.two_pow_pos _) ?_
  · intro i a hi ha h
    have ha' := lt_256 hR ha
    refine Ev.step (fun k => ?_) h
    simp only [spec_l3Column.l0]
    rw [if_pos (by rw [cast_length]; omega), if_pos (by omega), rd_row, l2Has_val _ _ (by have := hrow i; omega) (by omega), Option.bind_some, wrap_succ hi (by omega), wrapU_small _ (by omega) (by omega)]
    unfold bitStep
    dsimp only
    by_cases hb : (row R i).testBit m = true
    · rw [if_pos hb, if_pos (by omega), if_pos hb, or_bit ha' (by omega)]
    · rw [if_neg hb, if_neg hb]
  · intro b hb _
    refine Ev.step (f := fun _ => some (b : Int)) (fun k => ?_) ?_
    · simp only [spec_l3Column.l0]
      rw [if_neg (by rw [cast_length]; omega)]
    · rw [hb, fold_bits]; exact Ev.now _
def attrB (n : Int) (l : List Int) (m : Int) : Bool := ctxB n l && decide (0 ≤ m ∧ m < n)
theorem attrI_val (n : Int) (l : List Int) (m : Int) : impl_isAttribute.f n l m = some (attrB n l m) := by
  unfold impl_isAttribute.f attrB
  rw [ctxI_val, Option.bind_some]
  cases h : ctxB n l with
  | false => rfl
  | true =>
    obtain ⟨q, R, rfl, hq, _⟩ := ctxB_nat h
    rw [if_pos rfl, within_val, Option.bind_some, Bool.true_and, show wrap64 ((q : Int) - 1) = (q : Int) - 1 from by unfold wrap64; omega]
    refine congrArg some ?_
    rw [decide_eq_decide]
    omega
theorem attr_nat {n : Int} {l : List Int} {g : Int} (h : attrB n l g = true) : ∃ (m : Nat) (R : List Nat) (g' : Nat), n = (m : Int) ∧ m ≤ 6 ∧ l = cast R ∧ R.length ≤ 8 ∧ (∀ r ∈ R, r < 2 ^ m) ∧ g = (g' : Int) ∧ g' < m ∧ n.toNat = m ∧ l.map Int.toNat = R ∧ g.toNat = g' := by
  unfold attrB at h
  rw [Bool.and_eq_true, decide_eq_true_iff] at h
  obtain ⟨hc, h0, h1⟩ := h
  obtain ⟨m, R, rfl, hm, rfl, hR, hb⟩ := ctxB_nat hc
  exact ⟨m, R, g.toNat, rfl, hm, rfl, hR, hb, by omega, by omega, Int.toNat_natCast m, uncast R, rfl⟩
theorem colI_loop (R : List Nat) (hR : R.length ≤ 8) (hrow : ∀ i, row R i < 256) (m : Nat) (hm : m ≤ 8) : Ev (fun k => impl_ColumnOf.l0 k (m : Int) 0 (cast R) ((cast R).length : Int) 0) ((col R m : Nat) : Int) := by
  refine ev_fold (g := fun k (a : Nat) i => impl_ColumnOf.l0 k (m : Int) (a : Int) (cast R) ((cast R).length : Int) i) (bitStep fun g => (row R g).testBit m) (fun _ a => a < 2 ^ R.length) (N := R.length) ?_ (fun i a hi h => bitStep_lt hi h) R.length 0 0 (by omega) (Nat.two_pow_pos _) ?_
  · intro i a hi ha h
    have ha' := lt_256 hR ha
    refine Ev.step (fun k => ?_) h
    simp only [impl_ColumnOf.l0]
    rw [if_pos (by rw [cast_length]; omega), if_pos (by omega), if_pos (by rw [cast_length]; omega), if_pos (by omega), rd_row, bit01 _ _ (by have := hrow i; omega) (by omega), or_shl ha' (by omega), wrap_succ hi (by omega)]
    rfl
  · intro b hb _
    refine Ev.step (f := fun _ => some (b : Int)) (fun k => ?_) ?_
    · simp only [impl_ColumnOf.l0]
      rw [if_neg (by rw [cast_length]; omega)]
    · rw [hb, fold_bits]; exact Ev.now _
theorem colI_val {n : Int} {l : List Int} {m : Nat} {R : List Nat} {g : Nat} (h : ctxB n l = true) (e : n = (m : Int)) (e' : l = cast R) (hm : m ≤ 6) (hR : R.length ≤ 8) (hb : ∀ r ∈ R, r < 2 ^ m) (hg : g < m) : Ev (fun k => impl_ColumnOf.f k n l (g : Int)) ((col R g : Nat) : Int) := by
  unfold impl_ColumnOf.f
  have ha : attrB n l (g : Int) = true := by unfold attrB; rw [h, Bool.true_and, decide_eq_true_iff]; omega
  refine Ev.congr (fun k => by rw [attrI_val, ha, Option.bind_some, if_pos rfl, e']) ?_
  exact colI_loop R hR (fun i => lt_256 (show m ≤ 8 by omega) (row_lt hb i)) g (by omega)
def cols (m : Nat) (R : List Nat) : List Nat := (List.range m).map (col R)
theorem cols_length (m : Nat) (R : List Nat) : (cols m R).length = m := by unfold cols; rw [List.length_map, List.length_range]
theorem row_cols {m i : Nat} (R : List Nat) (h : i < m) : row (cols m R) i = col R i := by
  unfold row cols
  rw [List.getD_eq_getElem?_getD, List.getElem?_map, List.getElem?_range h]
  rfl
theorem cols_lt {m : Nat} {R : List Nat} : ∀ r ∈ cols m R, r < 2 ^ R.length := by
  intro r hr
  obtain ⟨i, _, rfl⟩ := List.mem_map.1 hr
  exact col_lt R i
theorem colsI_val {n : Int} {l : List Int} {m : Nat} {R : List Nat} (h : ctxB n l = true) (e : n = (m : Int)) (e' : l = cast R) (hm : m ≤ 6) (hR : R.length ≤ 8) (hb : ∀ r ∈ R, r < 2 ^ m) : Ev (fun k => impl_columns.f k n l) (cast (cols m R)) := by
  unfold impl_columns.f
  subst e
  refine ev_fold (g := fun k (a : List Int) i => impl_columns.l0 k a (m : Int) i (m : Int) l) (fun i a => a ++ [((col R i : Nat) : Int)]) (fun i a => a = cast ((List.range i).map (col R))) (N := m) ?_ ?_ m 0 [] (by omega) rfl ?_
  · intro i a hi ha h'
    have hl : a.length ≤ 8 := by rw [ha, cast_length, List.length_map, List.length_range]; omega
    refine Ev.step (f := fun k => (impl_ColumnOf.f k (m : Int) l (i : Int)).bind fun t => impl_columns.l0 k (a ++ [t]) (m : Int) ((i + 1 : Nat) : Int) (m : Int) l) (fun k => ?_) ?_
    · simp only [impl_columns.l0]
      rw [if_pos (by omega), wrap_succ hi (by omega)]
      simp only [if_pos (show a.length < 17592186044416 by omega)]
    · exact Ev.bind (colI_val h rfl e' hm hR hb hi) h'
  · intro i a hi ha
    rw [ha, List.range_succ, List.map_append]
    unfold cast
    rw [List.map_append]
    rfl
  · intro b _ hb'
    refine Ev.step (f := fun _ => some b) (fun k => ?_) ?_
    · simp only [impl_columns.l0]
      rw [if_neg (by omega)]
    · rw [hb']; exact Ev.now _
end Go.Proofs.Ytafnamchckehmaa.Pu
namespace Go.Proofs.Ytafnamchckehmaa.Pu
open Go.RowKit Go.Proofs.YtafnamchckehmaaW.PrintWords Go.Proofs.YtafnamchckehmaaW.PrintLast Go.Proofs.YtafnamchckehmaaW.PrintMore Go.Proofs.Ytafnamchckehmaa.Pr
def redAttrV (n : Int) (l : List Int) (g : Int) : Bool := attrB n l g && decide (bey (cols n.toNat (l.map Int.toNat)) (col (l.map Int.toNat) g.toNat) (full l.length) = col (l.map Int.toNat) g.toNat)
theorem redAttrI_val (n : Int) (l : List Int) (_hl : l.length ≤ 1048576) (g : Int) : Ev (fun k => impl_IsReducibleAttribute.f k n l g) (redAttrV n l g) := by
  unfold impl_IsReducibleAttribute.f redAttrV
  rw [attrI_val]
  simp only [Option.bind_some]
  cases h : attrB n l g with
  | false => exact Ev.congr (fun k => by rw [if_neg (by decide), Bool.false_and]) (Ev.now _)
  | true =>
    have hc : ctxB n l = true := by unfold attrB at h; rw [Bool.and_eq_true] at h; exact h.1
    obtain ⟨m, R, g', rfl, hm, rfl, hR, hb, rfl, hg, e1, e2, e3⟩ := attr_nat h
    rw [e1, e2, e3, Bool.true_and, cast_length]
    refine Ev.congr (fun k => by rw [if_pos rfl]) ?_
    refine Ev.bind (colsI_val hc rfl rfl hm hR hb) ?_
    refine Ev.bind (colI_val hc rfl rfl hm hR hb hg) ?_
    refine Ev.congr (fun k => by rw [fullI_val, Option.bind_some, fullN (by omega)]) ?_
    refine Ev.bind (beyI_val (cols m R) (by rw [cols_length]; omega) (fun i => lt_256 hR (row_lt cols_lt i)) _ _ (lt_256 hR (col_lt R g')) (full_256 hR)) ?_
    refine Ev.bind (colI_val hc rfl rfl hm hR hb hg) ?_
    refine Ev.congr (fun k => ?_) (Ev.now _)
    refine congrArg some ?_
    rw [Bool.eq_iff_iff, beq_iff_eq, decide_eq_true_iff]
    exact Int.natCast_inj
theorem l1In_attr {n : Int} (hn : 0 ≤ n ∧ n ≤ 6) (g : Int) : spec_l1In.f g 0 (wrap64 (n - 1)) = some (decide (0 ≤ g ∧ g < n)) := by
  rw [l1In_val, show wrap64 (n - 1) = n - 1 from by unfold wrap64; omega]
  refine congrArg some ?_
  rw [decide_eq_decide]
  omega
theorem ctxB_n {n : Int} {l : List Int} (h : ctxB n l = true) : 0 ≤ n ∧ n ≤ 6 := by
  unfold ctxB at h
  rw [Bool.and_eq_true, Bool.and_eq_true, decide_eq_true_iff] at h
  exact h.1.1
theorem redAttrS_val (n : Int) (l : List Int) (hl : l.length ≤ 1048576) (g : Int) : Ev (fun k => spec_IsReducibleAttribute.f k n l g) (redAttrV n l g) := by
  unfold spec_IsReducibleAttribute.f
  refine Ev.bind (ctxS_val n l (by omega)) ?_
  cases hc : ctxB n l with
  | false =>
    unfold redAttrV attrB
    rw [hc, Bool.false_and, Bool.false_and]
    refine Ev.congr (fun k => by rw [if_neg (by decide)]) ?_
    refine Ev.step (f := fun _ => some false) (fun k => ?_) (Ev.now _)
    simp only [spec_IsReducibleAttribute.j0]
    rw [if_true]
  | true =>
    refine Ev.congr (fun k => by rw [if_pos rfl, l1In_attr (ctxB_n hc), Option.bind_some]) ?_
    rw [show decide (0 ≤ g ∧ g < n) = attrB n l g from by unfold attrB; rw [hc]; rfl]
    unfold redAttrV
    cases h : attrB n l g with
    | false =>
      rw [Bool.false_and]
      refine Ev.step (f := fun _ => some false) (fun k => ?_) (Ev.now _)
      simp only [spec_IsReducibleAttribute.j0, Bool.not_false]
      rw [if_true]
    | true =>
      obtain ⟨m, R, g', rfl, hm, rfl, hR, hb, rfl, hg, e1, e2, e3⟩ := attr_nat h
      rw [e1, e2, e3, Bool.true_and, cast_length]
      have hrow := fun i => lt_256 (show m ≤ 8 by omega) (row_lt hb i)
      have hcol := fun i => lt_256 hR (col_lt R i)
      refine Ev.step (f := fun k => (spec_l3Column.f k (m : Int) (cast R) (g' : Int)).bind fun t => spec_IsReducibleAttribute.l0 k t ((full R.length : Nat) : Int) ((0 : Nat) : Int) (m : Int) (cast R)) (fun k => ?_) ?_
      · simp only [spec_IsReducibleAttribute.j0]
        rw [if_neg (by decide), fullS_val, cast_length, fullN hR]
        rfl
      · refine Ev.bind (colS_val R hR hrow _ g' (by omega)) ?_
        refine ev_fold (g := fun k (a : Nat) i => spec_IsReducibleAttribute.l0 k ((col R g' : Nat) : Int) (a : Int) i (m : Int) (cast R)) (byStep (cols m R) (col R g')) (fun _ a => a < 256) (N := m) ?_ (fun i a _ h => Nat.lt_of_le_of_lt (byStep_le _ _ i a) h) m 0 (full R.length) (by omega) (full_256 hR) ?_
        · intro i a hi ha h
          refine Ev.step (f := fun k => (spec_l3Column.f k (m : Int) (cast R) (i : Int)).bind fun t => if t = ((col R g' : Nat) : Int) then spec_IsReducibleAttribute.l0 k ((col R g' : Nat) : Int) (a : Int) ((i + 1 : Nat) : Int) (m : Int) (cast R) else if Go.bits .and .i64 t ((col R g' : Nat) : Int) = ((col R g' : Nat) : Int) then spec_IsReducibleAttribute.l0 k ((col R g' : Nat) : Int) (Go.bits .and .i64 (a : Int) t) ((i + 1 : Nat) : Int) (m : Int) (cast R) else spec_IsReducibleAttribute.l0 k ((col R g' : Nat) : Int) (a : Int) ((i + 1 : Nat) : Int) (m : Int) (cast R)) (fun k => ?_) ?_
          · simp only [spec_IsReducibleAttribute.l0]
            rw [if_pos (by omega), wrap_succ hi (by omega)]
          · refine Ev.bind (colS_val R hR hrow _ i (by omega)) ?_
            unfold byStep at h
            rw [row_cols R hi] at h
            by_cases h1 : col R i = col R g'
            · rw [if_neg (fun h => h.1 h1)] at h
              exact Ev.congr (fun k => by rw [if_pos (by rw [h1])]) h
            · by_cases h2 : sub (col R g') (col R i) = true
              · rw [if_pos ⟨h1, h2⟩] at h
                exact Ev.congr (fun k => by rw [if_neg (by omega), if_pos ((and_is (hcol g') (hcol i)).2 h2), and_nat (by omega) (by have := hcol i; omega)]) h
              · rw [if_neg (fun h => h2 h.2)] at h
                exact Ev.congr (fun k => by rw [if_neg (by omega), if_neg (fun h => h2 ((and_is (hcol g') (hcol i)).1 h))]) h
        · intro b hb' _
          refine Ev.step (f := fun _ => some (decide (bey (cols m R) (col R g') (full R.length) = col R g'))) (fun k => ?_) (Ev.now _)
          simp only [spec_IsReducibleAttribute.l0]
          rw [if_neg (by omega), hb']
          refine congrArg some ?_
          rw [Bool.eq_iff_iff, beq_iff_eq, decide_eq_true_iff]
          unfold bey
          rw [cols_length]
          exact Int.natCast_inj
end Go.Proofs.Ytafnamchckehmaa.Pu
namespace Go.Proofs.Ytafnamchckehmaa.Pu
open Go.RowKit Go.Proofs.YtafnamchckehmaaW.PrintWords Go.Proofs.YtafnamchckehmaaW.PrintLast Go.Proofs.YtafnamchckehmaaW.PrintMore Go.Proofs.Ytafnamchckehmaa.Pr
def atsB (n : Int) (l : List Int) (a : Int) : Bool := ctxB n l && isSetB n a
theorem atsI_val (n : Int) (l : List Int) (a : Int) : impl_areAttributes.f n l a = some (atsB n l a) := by
  unfold impl_areAttributes.f atsB
  rw [ctxI_val, Option.bind_some]
  cases ctxB n l with
  | false => rfl
  | true => rw [if_pos rfl, set_val, Option.bind_some, Bool.true_and]
def obsB (n : Int) (l : List Int) (o : Int) : Bool := ctxB n l && isSetB (l.length : Int) o
theorem obsI_val (n : Int) (l : List Int) (o : Int) : impl_areObjects.f n l o = some (obsB n l o) := by
  unfold impl_areObjects.f obsB
  rw [ctxI_val, Option.bind_some]
  cases ctxB n l with
  | false => rfl
  | true => rw [if_pos rfl, set_val, Option.bind_some, Bool.true_and]
theorem ats_nat {n : Int} {l : List Int} {a : Int} (h : atsB n l a = true) : ctxB n l = true ∧ ∃ (m : Nat) (R : List Nat) (a' : Nat), n = (m : Int) ∧ m ≤ 6 ∧ l = cast R ∧ R.length ≤ 8 ∧ (∀ r ∈ R, r < 2 ^ m) ∧ a = (a' : Int) ∧ a' < 2 ^ m := by
  unfold atsB at h
  rw [Bool.and_eq_true] at h
  obtain ⟨hc, hs⟩ := h
  obtain ⟨m, R, rfl, hm, rfl, hR, hb⟩ := ctxB_nat hc
  obtain ⟨m', a', _, e, ha, rfl⟩ := isSetB_nat hs
  obtain rfl : m = m' := by omega
  exact ⟨hc, m, R, a', rfl, hm, rfl, hR, hb, rfl, ha⟩
theorem obs_nat {n : Int} {l : List Int} {o : Int} (h : obsB n l o = true) : ctxB n l = true ∧ ∃ (m : Nat) (R : List Nat) (o' : Nat), n = (m : Int) ∧ m ≤ 6 ∧ l = cast R ∧ R.length ≤ 8 ∧ (∀ r ∈ R, r < 2 ^ m) ∧ o = (o' : Int) ∧ o' < 2 ^ R.length := by
  unfold obsB at h
  rw [Bool.and_eq_true] at h
  obtain ⟨hc, hs⟩ := h
  obtain ⟨m, R, rfl, hm, rfl, hR, hb⟩ := ctxB_nat hc
  rw [cast_length] at hs
  obtain ⟨m', a', _, e, ha, rfl⟩ := isSetB_nat hs
  obtain rfl : R.length = m' := by omega
  exact ⟨hc, m, R, a', rfl, hm, rfl, hR, hb, rfl, ha⟩
end Go.Proofs.Ytafnamchckehmaa.Pu
namespace Go.Proofs.Ytafnamchckehmaa.Pu
open Go.RowKit Go.Proofs.YtafnamchckehmaaW.PrintWords Go.Proofs.YtafnamchckehmaaW.PrintLast Go.Proofs.YtafnamchckehmaaW.PrintMore Go.Proofs.Ytafnamchckehmaa.Pr
def comStep (L : List Nat) (c i f : Nat) : Nat := if c.testBit i = true then f &&& row L i else f
def com (L : List Nat) (c f : Nat) : Nat := foldIdx (comStep L c) 0 L.length f
theorem comStep_le (L : List Nat) (c i f : Nat) : comStep L c i f ≤ f := by
  unfold comStep
  split
  · exact Nat.and_le_left
  · exact Nat.le_refl _
theorem testBit_fold_com (L : List Nat) (c j : Nat) : ∀ (d i f : Nat), i + d = L.length → ((foldIdx (comStep L c) i L.length f).testBit j = true ↔ f.testBit j = true ∧ ∀ g, i ≤ g → g < L.length → c.testBit g = true → (row L g).testBit j = true) := by
  intro d
  induction d with
  | zero =>
    intro i f h
    rw [foldIdx_end _ (by omega)]
    exact ⟨fun h => ⟨h, fun g h1 h2 => by omega⟩, fun h => h.1⟩
  | succ d ih =>
    intro i f h
    have hi : i < L.length := by omega
    rw [foldIdx_step _ hi f, ih (i + 1) _ (by omega)]
    unfold comStep
    by_cases hc : c.testBit i = true
    · rw [if_pos hc, Nat.testBit_and, Bool.and_eq_true]
      constructor
      · rintro ⟨⟨h1, h2⟩, h3⟩
        refine ⟨h1, fun g hg hg' hcg => ?_⟩
        by_cases e : g = i
        · subst e; exact h2
        · exact h3 g (by omega) hg' hcg
      · rintro ⟨h1, h2⟩
        exact ⟨⟨h1, h2 i (Nat.le_refl _) hi hc⟩, fun g hg hg' hcg => h2 g (by omega) hg' hcg⟩
    · rw [if_neg hc]
      constructor
      · rintro ⟨h1, h3⟩
        refine ⟨h1, fun g hg hg' hcg => ?_⟩
        by_cases e : g = i
        · subst e; exact absurd hcg hc
        · exact h3 g (by omega) hg' hcg
      · rintro ⟨h1, h2⟩
        exact ⟨h1, fun g hg hg' hcg => h2 g (by omega) hg' hcg⟩
theorem testBit_com (L : List Nat) (c f j : Nat) : (com L c f).testBit j = true ↔ f.testBit j = true ∧ ∀ g, g < L.length → c.testBit g = true → (row L g).testBit j = true := by
  unfold com
  rw [testBit_fold_com L c j L.length 0 f (by omega)]
  exact ⟨fun h => ⟨h.1, fun g h1 => h.2 g (Nat.zero_le _) h1⟩, fun h => ⟨h.1, fun g _ h1 => h.2 g h1⟩⟩
theorem int_com (m : Nat) (R : List Nat) (o : Nat) : com R o (full m) = int m R o := by
  apply Nat.eq_of_testBit_eq
  intro i
  rw [Bool.eq_iff_iff, testBit_com, testBit_int, testBit_full, decide_eq_true_iff]
theorem ext_lt (R : List Nat) (a : Nat) : ext R a < 2 ^ R.length := ofBits_lt _ _
theorem intS_val (m : Nat) (hm : m ≤ 8) (R : List Nat) (hR : R.length ≤ 8) (hrow : ∀ i, row R i < 256) (o : Nat) (ho : o < 256) : Ev (fun k => spec_l4Intent.f k (m : Int) (cast R) (o : Int)) ((int m R o : Nat) : Int) := by
  unfold spec_l4Intent.f
  refine Ev.congr (fun k => by rw [fullS_val, Option.bind_some, fullN hm]) ?_
  refine ev_fold (g := fun k (a : Nat) i => spec_l4Intent.l0 k (o : Int) (a : Int) i (m : Int) (cast R)) (comStep R o) (fun _ a => a < 256) (N := R.length) ?_ (fun i a _ h => Nat.lt_of_le_of_lt (comStep_le R o i a) h) R.length 0 (full m) (by omega) (full_256 hm) ?_
  · intro i a hi ha h
    refine Ev.step (fun k => ?_) h
    simp only [spec_l4Intent.l0]
    rw [if_pos (by rw [cast_length]; omega), l2Has_val _ _ (by omega) (by omega), Option.bind_some, rd_row, wrap_succ hi (by omega)]
    unfold comStep
    by_cases h1 : o.testBit i = true
    · rw [if_pos h1, if_pos (by omega), if_pos h1, and_nat (by omega) (by have := hrow i; omega)]
    · rw [if_neg h1, if_neg h1]
  · intro b hb _
    refine Ev.step (f := fun _ => some (b : Int)) (fun k => ?_) ?_
    · simp only [spec_l4Intent.l0]
      rw [if_neg (by rw [cast_length]; omega)]
    · rw [hb, show foldIdx (comStep R o) 0 R.length (full m) = int m R o from int_com m R o]; exact Ev.now _
theorem extS_val (n : Int) (R : List Nat) (hR : R.length ≤ 8) (hrow : ∀ i, row R i < 256) (a : Nat) (ha : a < 256) : Ev (fun k => spec_l4Extent.f k n (cast R) (a : Int)) ((ext R a : Nat) : Int) := by
  unfold spec_l4Extent.f
  refine ev_fold (g := fun k (b : Nat) i => spec_l4Extent.l0 k (a : Int) (b : Int) i n (cast R)) (bitStep fun g => sub a (row R g)) (fun _ b => b < 2 ^ R.length) (N := R.length) ?_ (fun i b hi h => bitStep_lt hi h) R.length 0 0 (by omega) (Nat.two_pow_pos _) ?_
  · intro i b hi hb h
    have hb' := lt_256 hR hb
    refine Ev.step (fun k => ?_) h
    simp only [spec_l4Extent.l0]
    rw [if_pos (by rw [cast_length]; omega), if_pos (by omega), rd_row, wrap_succ hi (by omega), wrapU_small _ (by omega) (by omega)]
    unfold bitStep
    dsimp only
    by_cases h1 : sub a (row R i) = true
    · rw [if_pos ((and_is ha (hrow i)).2 h1), if_pos (by omega), if_pos h1, or_bit hb' (by omega)]
    · rw [if_neg (fun h => h1 ((and_is ha (hrow i)).1 h)), if_neg h1]
  · intro b hb _
    refine Ev.step (f := fun _ => some (b : Int)) (fun k => ?_) ?_
    · simp only [spec_l4Extent.l0]
      rw [if_neg (by rw [cast_length]; omega)]
    · rw [hb, fold_bits]; exact Ev.now _
theorem clS4_val (m : Nat) (hm : m ≤ 8) (R : List Nat) (hR : R.length ≤ 8) (hrow : ∀ i, row R i < 256) (a : Nat) (ha : a < 256) : Ev (fun k => spec_l4Closure.f k (m : Int) (cast R) (a : Int)) ((cl m R a : Nat) : Int) := by
  unfold spec_l4Closure.f
  refine Ev.bind (extS_val _ R hR hrow a ha) ?_
  exact Ev.bind (intS_val m hm R hR hrow _ (lt_256 hR (ext_lt R a))) (Ev.now _)
end Go.Proofs.Ytafnamchckehmaa.Pu
namespace Go.Proofs.Ytafnamchckehmaa.Pu
open Go.RowKit Go.Proofs.YtafnamchckehmaaW.PrintWords Go.Proofs.YtafnamchckehmaaW.PrintLast Go.Proofs.YtafnamchckehmaaW.PrintMore Go.Proofs.Ytafnamchckehmaa.Pr
def closedQ (m : Nat) (R : List Nat) (s : Nat) : Bool := decide (cl m R s = s)
def conN (m : Nat) (R : List Nat) : List S59 := (keptN m (closedQ m R)).map fun s => ⟨((ext R s : Nat) : Int), ((s : Nat) : Int)⟩
abbrev IC := S59
def nxO : Option Nat → Int × Bool
  | some x => ((x : Int), true)
  | none => (0, false)
theorem next5_loop {m : Nat} (hm : m ≤ 6) {R : List Nat} (hR : R.length ≤ 8) (hrow : ∀ i, row R i < 256) {s : Nat} (hs : s < 2 ^ m) : ∀ j, j ≤ m → Ev (fun k => spec_l5Next.l0 k (s : Int) ((j : Int) - 1) (m : Int) (cast R)) (nxO (nextN (cl m R) s j)) := by
  have h256 := pow_256 (show m ≤ 8 by omega)
  intro j
  induction j with
  | zero =>
    intro _
    refine Ev.step (f := fun _ => some (0, false)) (fun k => ?_) (Ev.now _)
    simp only [spec_l5Next.l0]
    rw [if_neg (by omega)]
  | succ j ih =>
    intro hj
    have hih := ih (by omega)
    have e1 : ((j + 1 : Nat) : Int) - 1 = (j : Int) := by omega
    have ew : wrap64 ((j : Int) - 1) = (j : Int) - 1 := by unfold wrap64; omega
    rw [e1]
    have hfull := full_256 (show j ≤ 8 by omega)
    have ha : s &&& full j < 256 := Nat.lt_of_le_of_lt Nat.and_le_left (by omega)
    have harg : (s &&& full j) ||| 2 ^ j < 2 ^ m := arg_lt hs (by omega)
    have hp : plus (cl m R) s j < 256 := Nat.lt_of_lt_of_le (plus_lt (clos_cl m R) hs (by omega)) h256
    cases hb : s.testBit j with
    | true =>
      have : nextN (cl m R) s (j + 1) = nextN (cl m R) s j := by
        rw [nextN]
        rw [if_neg]
        unfold hitsN
        rw [hb]
        simp
      rw [this]
      refine Ev.step (fun k => ?_) hih
      simp only [spec_l5Next.l0]
      rw [if_pos (by omega), l2Has_val s j (by omega) (by omega), hb, Option.bind_some, if_pos rfl, ew]
    | false =>
      refine Ev.step (f := fun k => (spec_l4Closure.f k (m : Int) (cast R) (((s &&& full j) ||| 2 ^ j : Nat) : Int)).bind fun t => if Go.bits .and .i64 t ((full j : Nat) : Int) = ((s &&& full j : Nat) : Int) then some (t, true) else spec_l5Next.l0 k (s : Int) ((j : Int) - 1) (m : Int) (cast R)) (fun k => ?_) ?_
      · simp only [spec_l5Next.l0]
        rw [if_pos (by omega), l2Has_val s j (by omega) (by omega), hb, Option.bind_some, if_neg (by decide), fullS_val, fullN (by omega), Option.bind_some, wrapU_small (j : Int) (by omega) (by omega), if_pos (by omega), ew, and_nat (by omega) (by omega), or_bit ha (by omega)]
        simp only [Option.bind_some]
      · refine Ev.bind (clS4_val m (by omega) R hR hrow _ (by omega)) ?_
        rw [show cl m R ((s &&& full j) ||| 2 ^ j) = plus (cl m R) s j from rfl, and_nat (by omega) (by omega)]
        rw [nextN]
        by_cases e : plus (cl m R) s j &&& full j = s &&& full j
        · have : hitsN (cl m R) s j = true := by
            unfold hitsN
            rw [hb, e]
            simp
          rw [if_pos this]
          exact Ev.congr (fun k => by rw [if_pos (by rw [e])]; rfl) (Ev.now _)
        · have : ¬ hitsN (cl m R) s j = true := by
            unfold hitsN
            rw [Bool.and_eq_true, beq_iff_eq]
            exact fun h => e h.2
          rw [if_neg this]
          exact Ev.congr (fun k => by rw [if_neg (by omega)]) hih
theorem next5_val {m : Nat} (hm : m ≤ 6) {R : List Nat} (hR : R.length ≤ 8) (hrow : ∀ i, row R i < 256) {s : Nat} (hs : s < 2 ^ m) : Ev (fun k => spec_l5Next.f k (m : Int) (cast R) (s : Int)) (nxO (nextN (cl m R) s m)) := by
  unfold spec_l5Next.f
  rw [show wrap64 ((m : Int) - 1) = (m : Int) - 1 from by unfold wrap64; omega]
  exact next5_loop hm hR hrow hs m (Nat.le_refl _)
def mkC (R : List Nat) (s : Nat) : IC := ⟨((ext R s : Nat) : Int), ((s : Nat) : Int)⟩
theorem con5_val {m : Nat} (hm : m ≤ 6) {R : List Nat} (hR : R.length ≤ 8) (hrow : ∀ i, row R i < 256) {s : Nat} (hs : s < 2 ^ m) (hc : cl m R s = s) : Ev (fun k => spec_l5Concept.f k (m : Int) (cast R) (s : Int)) (((ext R s : Nat) : Int), ((s : Nat) : Int)) := by
  have h256 := pow_256 (show m ≤ 8 by omega)
  unfold spec_l5Concept.f
  refine Ev.bind (extS_val (m : Int) R hR hrow s (by omega)) ?_
  refine Ev.bind (intS_val m (by omega) R hR hrow (ext R s) (lt_256 hR (ext_lt R s))) ?_
  rw [show int m R (ext R s) = s from hc]
  exact Ev.now _
theorem cons_loop {m : Nat} (hm : m ≤ 6) {R : List Nat} (hR : R.length ≤ 8) (hrow : ∀ i, row R i < 256) : ∀ (d s : Nat) (out : List Nat), s < 2 ^ m → cl m R s = s → 256 - rv s ≤ d → out.length + d ≤ 512 →
    Ev (fun k => spec_Concepts.l0 k (out.map (mkC R)) (s : Int) (m : Int) (cast R)) ((out ++ fromN m (cl m R) s).map (mkC R)) := by
  have h256 := pow_256 (show m ≤ 8 by omega)
  intro d
  induction d with
  | zero =>
    intro s out hs _ hd _
    have := rv_lt (show s < 256 by omega)
    omega
  | succ d ih =>
    intro s out hs hc hd hl
    have C := clos_cl m R
    have hlen : (out.map (mkC R)).length ≤ 1048576 := by rw [List.length_map]; omega
    have hsmall : (out.map (mkC R)).length < 8796093022208 := by
      have : ∀ n : Nat, n ≤ 1048576 → n < 8796093022208 := fun n _ => by omega
      exact this _ hlen
    have hsnoc : out.map (mkC R) ++ [(⟨((ext R s : Nat) : Int), ((s : Nat) : Int)⟩ : IC)] = (out ++ [s]).map (mkC R) := by rw [List.map_append]; rfl
    refine Ev.step (f := fun k => (spec_l5Concept.f k (m : Int) (cast R) (s : Int)).bind fun bt => ((spec_l5Next.f k (m : Int) (cast R) (s : Int)).bind fun bu => (if bu.2 = true then (spec_Concepts.l0 k (out.map (mkC R) ++ [(⟨bt.1, bt.2⟩ : IC)]) bu.1 (m : Int) (cast R)) else (some (out.map (mkC R) ++ [(⟨bt.1, bt.2⟩ : IC)]))))) (fun k => ?_) ?_
    · simp only [spec_Concepts.l0, Option.bind_some]
      congr 1
      funext bt
      rw [if_pos hsmall]
    · refine Ev.bind (con5_val hm hR hrow hs hc) ?_
      dsimp only
      refine Ev.bind (next5_val hm hR hrow hs) ?_
      rw [hsnoc, from_cons C (by omega) hs hc]
      cases hn : nextN (cl m R) s m with
      | none =>
        rw [from_last C (by omega) hs hn]
        exact Ev.congr (fun k => by unfold nxO; rw [if_neg (by decide)]) (Ev.now _)
      | some x =>
        obtain ⟨hx, hxc, hb, _⟩ := next_some C (by omega) hs hn
        unfold bef at hb
        rw [decide_eq_true_iff] at hb
        have hxv := rv_lt (show x < 256 by omega)
        rw [from_next C (by omega) hs hn]
        have := ih x (out ++ [s]) hx hxc (by omega) (by rw [List.length_append, List.length_singleton]; omega)
        rw [List.append_assoc] at this
        exact Ev.congr (fun k => by unfold nxO; dsimp only; rw [if_pos rfl]) this
def conV (n : Int) (l : List Int) : List IC := if ctxB n l = true then conN n.toNat (l.map Int.toNat) else []
theorem conV_nat {m : Nat} {R : List Nat} (hc : ctxB (m : Int) (cast R) = true) : conV (m : Int) (cast R) = conN m R := by
  unfold conV
  rw [if_pos hc, Int.toNat_natCast, uncast]
theorem conS_val (n : Int) (l : List Int) (hl : l.length ≤ 1048576) : Ev (fun k => spec_Concepts.f k n l) (conV n l) := by
  unfold spec_Concepts.f
  simp only [Option.bind_some]
  refine Ev.bind (ctxS_val n l (by omega)) ?_
  cases hc : ctxB n l with
  | false =>
    unfold conV
    rw [hc, if_neg (by decide)]
    exact Ev.congr (fun k => by rw [if_neg (by decide)]) (Ev.now _)
  | true =>
    have hc2 := hc
    obtain ⟨m, R, rfl, hm, rfl, hR, hb⟩ := ctxB_nat hc2
    have hrow := fun i => lt_256 (show m ≤ 8 by omega) (row_lt hb i)
    have h0 := Nat.two_pow_pos m
    have h256 := pow_256 (show m ≤ 8 by omega)
    rw [conV_nat hc]
    refine Ev.congr (fun k => by rw [if_pos rfl]) ?_
    refine Ev.bind (clS4_val m (by omega) R hR hrow 0 (by omega)) ?_
    have := cons_loop hm hR hrow 256 (cl m R 0) [] (cl_lt m R 0) (cl_idem h0) (by omega) (by decide)
    rw [List.nil_append, from_first (clos_cl m R) (by omega)] at this
    exact this
end Go.Proofs.Ytafnamchckehmaa.Pu
namespace Go.Proofs.Ytafnamchckehmaa.Pu
open Go.RowKit Go.Proofs.YtafnamchckehmaaW.PrintWords Go.Proofs.YtafnamchckehmaaW.PrintLast Go.Proofs.YtafnamchckehmaaW.PrintMore Go.Proofs.Ytafnamchckehmaa.Pr
def elN (s : Nat) : List Nat := (List.range 8).filter fun (e : Nat) => s.testBit e
theorem elN_length (s : Nat) : (elN s).length ≤ 8 := by
  have := List.length_filter_le (fun (e : Nat) => s.testBit e) (List.range 8)
  rw [List.length_range] at this
  exact this
theorem elN_le (s i : Nat) : row (elN s) i ≤ 7 := by
  unfold row
  rw [List.getD_eq_getElem?_getD]
  cases h : (elN s)[i]? with
  | none => exact Nat.zero_le _
  | some x =>
    have := List.mem_range.1 (List.mem_filter.1 (List.mem_of_getElem? h)).1
    show x ≤ 7
    omega
def pack (s c : Nat) : Nat := ofBits (fun k => s.testBit (row (elN c) k)) (elN c).length
theorem pack_lt (s c : Nat) : pack s c < 2 ^ (elN c).length := ofBits_lt _ _
set_option maxRecDepth 100000 in
theorem countI_all : ∀ a : Fin 256, impl_CountOf.f ((a.val : Nat) : Int) = some (((elN a.val).length : Nat) : Int) := by decide +kernel
theorem countI_val {a : Nat} (ha : a < 256) : impl_CountOf.f (a : Int) = some (((elN a).length : Nat) : Int) := countI_all ⟨a, ha⟩
theorem elemsV_nat {a : Nat} (ha : a < 256) : elemsV (a : Int) = cast (elN a) := by
  unfold elemsV isAny
  rw [decide_eq_true (by omega), if_pos rfl, Int.toNat_natCast]
  rfl
theorem renI_val {s c : Nat} (hs : s < 256) (hc : c < 256) : Ev (fun k => impl_renumbered.f k (s : Int) (c : Int)) ((pack s c : Nat) : Int) := by
  unfold impl_renumbered.f
  refine Ev.bind (elemsI_val (c : Int)) ?_
  rw [elemsV_nat hc]
  have hl := elN_length c
  refine ev_fold (g := fun k (a : Nat) i => impl_renumbered.l0 k (s : Int) (a : Int) (cast (elN c)) ((cast (elN c)).length : Int) i) (bitStep fun k => s.testBit (row (elN c) k)) (fun _ a => a < 2 ^ (elN c).length) (N := (elN c).length) ?_ (fun i a hi h => bitStep_lt hi h) (elN c).length 0 0 (by omega) (Nat.two_pow_pos _) ?_
  · intro i a hi ha h
    have ha' := lt_256 hl ha
    have h7 := elN_le c i
    refine Ev.step (fun k => ?_) h
    simp only [impl_renumbered.l0]
    rw [if_pos (by rw [cast_length]; omega), if_pos (by omega), if_pos (by rw [cast_length]; omega), rd_row, if_pos (by omega), bit01 _ _ (by omega) (by omega), or_shl ha' (by omega), wrap_succ hi (by omega)]
    rfl
  · intro b hb _
    refine Ev.step (f := fun _ => some (b : Int)) (fun k => ?_) ?_
    · simp only [impl_renumbered.l0]
      rw [if_neg (by rw [cast_length]; omega)]
    · rw [hb, fold_bits]; exact Ev.now _
def leftR (R : List Nat) (o c i : Nat) : List Nat := ((List.range i).filter fun (j : Nat) => !o.testBit j).map fun j => pack (row R j) c
theorem leftR_length (R : List Nat) (o c i : Nat) : (leftR R o c i).length ≤ i := by
  unfold leftR
  rw [List.length_map]
  have := List.length_filter_le (fun (j : Nat) => !o.testBit j) (List.range i)
  rw [List.length_range] at this
  exact this
theorem leftR_succ (R : List Nat) (o c i : Nat) : leftR R o c (i + 1) = if o.testBit i = true then leftR R o c i else leftR R o c i ++ [pack (row R i) c] := by
  unfold leftR
  rw [List.range_succ, List.filter_append, List.map_append]
  by_cases h : o.testBit i = true
  · rw [if_pos h, List.filter_cons_of_neg (by rw [h]; decide), List.filter_nil, List.map_nil, List.append_nil]
  · rw [if_neg h, List.filter_cons_of_pos (by simpa using h), List.filter_nil]
    rfl
theorem cast_append (a b : List Nat) : cast (a ++ b) = cast a ++ cast b := by unfold cast; rw [List.map_append]
theorem hasI_nat {c i : Nat} (hc : c < 256) (hi : i ≤ 7) : impl_HasElement.f (c : Int) (i : Int) = some (c.testBit i) := by
  rw [hasI_val]
  unfold hasV isAny
  rw [decide_eq_true (by omega), decide_eq_true (by omega)]
  simp
theorem withI_val (m : Nat) (hm : m ≤ 8) (R : List Nat) (hR : R.length ≤ 8) (hrow : ∀ i, row R i < 256) (o at_ : Nat) (ho : o < 256) (hat : at_ < 256) :
    Ev (fun k => impl_without.f k (m : Int) (cast R) (o : Int) (at_ : Int)) ((((elN (diff (full m) at_)).length : Nat) : Int), cast (leftR R o (diff (full m) at_) R.length)) := by
  unfold impl_without.f
  have hf := full_256 hm
  have hd : diff (full m) at_ < 256 := Nat.lt_of_le_of_lt (diff_le _ _) hf
  refine Ev.congr (fun k => by rw [fullI_val, Option.bind_some, fullN hm, andNot_nat (by omega) (by omega), countI_val hd, Option.bind_some]) ?_
  generalize diff (full m) at_ = c at *
  refine ev_fold (g := fun k (a : List Int) i => impl_without.l0 k (o : Int) (c : Int) (cast R) ((cast R).length : Int) i (((elN c).length : Nat) : Int) a) (fun i _ => cast (leftR R o c (i + 1))) (fun i a => a = cast (leftR R o c i)) (N := R.length) ?_ (fun i a hi h => rfl) R.length 0 [] (by omega) rfl ?_
  · intro i a hi ha h
    have hl := leftR_length R o c i
    have hal : a.length ≤ 8 := by rw [ha, cast_length]; omega
    rw [leftR_succ] at h
    by_cases h1 : o.testBit i = true
    · rw [if_pos h1, ← ha] at h
      refine Ev.step (fun k => ?_) h
      simp only [impl_without.l0]
      rw [if_pos (by rw [cast_length]; omega), if_pos (by omega), if_pos (by rw [cast_length]; omega), hasI_nat ho (by omega), Option.bind_some, if_pos h1, wrap_succ hi (by omega)]
    · rw [if_neg h1, cast_append, ← ha] at h
      refine Ev.step (f := fun k => (impl_renumbered.f k ((row R i : Nat) : Int) (c : Int)).bind fun t => impl_without.l0 k (o : Int) (c : Int) (cast R) ((cast R).length : Int) ((i + 1 : Nat) : Int) (((elN c).length : Nat) : Int) (a ++ [t])) (fun k => ?_) ?_
      · simp only [impl_without.l0]
        rw [if_pos (by rw [cast_length]; omega), if_pos (by omega), if_pos (by rw [cast_length]; omega), hasI_nat ho (by omega), Option.bind_some, if_neg h1, wrap_succ hi (by omega), rd_row]
        simp only [if_pos (show a.length < 17592186044416 by omega)]
      · exact Ev.bind (renI_val (hrow i) hd) h
  · intro b _ hb'
    refine Ev.step (f := fun _ => some ((((elN c).length : Nat) : Int), b)) (fun k => ?_) ?_
    · simp only [impl_without.l0]
      rw [if_neg (by rw [cast_length]; omega)]
    · rw [hb']; exact Ev.now _
theorem elN_full {m : Nat} (h : m ≤ 8) : elN (full m) = List.range m := by
  have h' : m = 0 ∨ m = 1 ∨ m = 2 ∨ m = 3 ∨ m = 4 ∨ m = 5 ∨ m = 6 ∨ m = 7 ∨ m = 8 := by omega
  rcases h' with rfl | rfl | rfl | rfl | rfl | rfl | rfl | rfl | rfl <;> decide +kernel
theorem row_range {m i : Nat} (h : i < m) : row (List.range m) i = i := by
  unfold row
  rw [List.getD_eq_getElem?_getD, List.getElem?_range h]
  rfl
theorem pack_full {m s : Nat} (hm : m ≤ 8) (hs : s < 2 ^ m) : pack s (full m) = s := by
  unfold pack
  rw [elN_full hm, List.length_range]
  exact (eq_ofBits hs fun i hi => by rw [row_range hi]).symm
theorem diff_zero (a : Nat) : diff a 0 = a := by unfold diff; rw [Nat.and_zero, Nat.xor_zero]
def keptR (R : List Nat) (o i : Nat) : List Nat := ((List.range i).filter fun (j : Nat) => !o.testBit j).map fun j => row R j
theorem leftR_full {m : Nat} (hm : m ≤ 8) {R : List Nat} (hb : ∀ r ∈ R, r < 2 ^ m) (o i : Nat) : leftR R o (full m) i = keptR R o i := by
  unfold leftR keptR
  exact List.map_congr_left fun j _ => pack_full hm (row_lt hb j)
theorem keptR_length (R : List Nat) (o i : Nat) : (keptR R o i).length ≤ i := by
  unfold keptR
  rw [List.length_map]
  have := List.length_filter_le (fun (j : Nat) => !o.testBit j) (List.range i)
  rw [List.length_range] at this
  exact this
theorem keptR_succ (R : List Nat) (o i : Nat) : keptR R o (i + 1) = if o.testBit i = true then keptR R o i else keptR R o i ++ [row R i] := by
  unfold keptR
  rw [List.range_succ, List.filter_append, List.map_append]
  by_cases h : o.testBit i = true
  · rw [if_pos h, List.filter_cons_of_neg (by rw [h]; decide), List.filter_nil, List.map_nil, List.append_nil]
  · rw [if_neg h, List.filter_cons_of_pos (by simpa using h), List.filter_nil]
    rfl
end Go.Proofs.Ytafnamchckehmaa.Pu
namespace Go.Proofs.Ytafnamchckehmaa.Pu
open Go.RowKit Go.Proofs.YtafnamchckehmaaW.PrintWords Go.Proofs.YtafnamchckehmaaW.PrintLast Go.Proofs.YtafnamchckehmaaW.PrintMore Go.Proofs.Ytafnamchckehmaa.Pr
set_option maxRecDepth 100000 in
theorem countS_all : ∀ a : Fin 256, spec_CountOf.f 10 ((a.val : Nat) : Int) = some (((elN a.val).length : Nat) : Int) := by decide +kernel
theorem countS_val {a : Nat} (ha : a < 256) : Ev (fun k => spec_CountOf.f k (a : Int)) (((elN a).length : Nat) : Int) := Ev.of (fun k => spec_CountOf.mono _ k) (countS_all ⟨a, ha⟩)
def elB (c e : Nat) : List Nat := (List.range e).filter fun (j : Nat) => c.testBit j
theorem elB_succ (c e : Nat) : elB c (e + 1) = if c.testBit e = true then elB c e ++ [e] else elB c e := by
  unfold elB
  rw [List.range_succ, List.filter_append]
  by_cases h : c.testBit e = true
  · rw [if_pos h, List.filter_cons_of_pos h, List.filter_nil]
  · rw [if_neg h, List.filter_cons_of_neg h, List.filter_nil, List.append_nil]
theorem elB_length (c e : Nat) : (elB c e).length ≤ e := by
  have := List.length_filter_le (fun (j : Nat) => c.testBit j) (List.range e)
  rw [List.length_range] at this
  exact this
theorem row_append_lt {L : List Nat} {x i : Nat} (h : i < L.length) : row (L ++ [x]) i = row L i := by
  unfold row
  rw [List.getD_eq_getElem?_getD, List.getD_eq_getElem?_getD, List.getElem?_append_left h]
theorem row_append_self (L : List Nat) (x : Nat) : row (L ++ [x]) L.length = x := by
  unfold row
  rw [List.getD_eq_getElem?_getD, List.getElem?_append_right (Nat.le_refl _), Nat.sub_self]
  rfl
def packB (s c e : Nat) : Nat := ofBits (fun k => s.testBit (row (elB c e) k)) (elB c e).length
theorem packB_succ (s c e : Nat) : packB s c (e + 1) = if c.testBit e = true then (if s.testBit e = true then packB s c e ||| 2 ^ (elB c e).length else packB s c e) else packB s c e := by
  unfold packB
  rw [elB_succ]
  by_cases h : c.testBit e = true
  · rw [if_pos h, if_pos h, List.length_append, List.length_singleton, ofBits, row_append_self]
    rw [ofBits_congr (g := fun k => s.testBit (row (elB c e) k)) (fun i hi => by rw [row_append_lt hi])]
    by_cases h' : s.testBit e = true
    · rw [if_pos h', if_pos h']
    · rw [if_neg h', if_neg h', Nat.or_zero]
  · rw [if_neg h, if_neg h]
theorem packS_val {s c : Nat} (hs : s < 256) (hc : c < 256) : Ev (fun k => spec_l7Pack.f k (s : Int) (c : Int)) ((pack s c : Nat) : Int) := by
  unfold spec_l7Pack.f
  refine ev_fold (g := fun k (a : Nat × Nat) i => spec_l7Pack.l0 k (s : Int) (c : Int) (a.1 : Int) (a.2 : Int) i) (fun e _ => (packB s c (e + 1), (elB c (e + 1)).length)) (fun e a => a = (packB s c e, (elB c e).length)) (N := 8) ?_ (fun i a hi h => rfl) 8 0 (0, 0) rfl rfl ?_
  · intro i a hi ha h
    subst ha
    have hl := elB_length c i
    have hp : packB s c i < 256 := lt_256 (show (elB c i).length ≤ 8 by omega) (ofBits_lt _ _)
    refine Ev.step (fun k => ?_) h
    simp only [spec_l7Pack.l0]
    rw [if_pos (by omega), l2Has_val c i (by omega) (by omega), Option.bind_some, l2Has_val s i (by omega) (by omega), Option.bind_some, packB_succ, elB_succ, wrapU_small _ (by omega) (by omega), show wrap64 ((i : Int) + 1) = ((i + 1 : Nat) : Int) from by unfold wrap64; omega, show wrap64 (((elB c i).length : Int) + 1) = (((elB c i).length + 1 : Nat) : Int) from by unfold wrap64; omega]
    by_cases h1 : c.testBit i = true
    · rw [if_pos h1, if_pos h1, if_pos h1, List.length_append, List.length_singleton]
      by_cases h2 : s.testBit i = true
      · rw [if_pos h2, if_pos h2, if_pos (by omega), or_bit hp (by omega)]
      · rw [if_neg h2, if_neg h2]
    · rw [if_neg h1, if_neg h1, if_neg h1]
  · intro b hb hb'
    refine Ev.step (f := fun _ => some (b.1 : Int)) (fun k => ?_) ?_
    · simp only [spec_l7Pack.l0]
      rw [if_neg (by decide)]
    · rw [hb']; exact Ev.now _
def dropAV (n : Int) (l : List Int) (a : Int) : Int × List Int × Bool := if atsB n l a = true then ((((elN (diff (full n.toNat) a.toNat)).length : Nat) : Int), cast (leftR (l.map Int.toNat) 0 (diff (full n.toNat) a.toNat) l.length), true) else (0, [], false)
theorem dropAV_length (n : Int) (l : List Int) (a : Int) : (dropAV n l a).2.1.length ≤ l.length := by
  unfold dropAV
  split
  · show (cast _).length ≤ _
    rw [cast_length]
    exact leftR_length _ _ _ _
  · exact Nat.zero_le _
theorem dropAI_val (n : Int) (l : List Int) (_hl : l.length ≤ 1048576) (a : Int) : Ev (fun k => impl_DropAttributes.f k n l a) (dropAV n l a) := by
  unfold impl_DropAttributes.f dropAV
  rw [atsI_val]
  simp only [Option.bind_some]
  cases h : atsB n l a with
  | false => exact Ev.congr (fun k => by rw [if_neg (by decide), if_neg (by decide)]) (Ev.now _)
  | true =>
    obtain ⟨hc, m, R, a', rfl, hm, rfl, hR, hb, rfl, ha⟩ := ats_nat h
    have hrow := fun i => lt_256 (show m ≤ 8 by omega) (row_lt hb i)
    rw [if_pos rfl, uncast, Int.toNat_natCast, Int.toNat_natCast, cast_length]
    refine Ev.congr (fun k => by rw [if_pos rfl]) ?_
    refine Ev.bind (withI_val m (by omega) R hR hrow 0 a' (by decide) (lt_256 (by omega) ha)) ?_
    exact Ev.now _
theorem dropAS_val (n : Int) (l : List Int) (hl : l.length ≤ 1048576) (a : Int) : Ev (fun k => spec_DropAttributes.f k n l a) (dropAV n l a) := by
  unfold spec_DropAttributes.f dropAV
  refine Ev.bind (ctxS_val n l (by omega)) ?_
  cases hc : ctxB n l with
  | false =>
    rw [show atsB n l a = false from by unfold atsB; rw [hc]; rfl, if_neg (by decide)]
    refine Ev.congr (fun k => by rw [if_neg (by decide)]) ?_
    refine Ev.step (f := fun _ => some (0, [], false)) (fun k => ?_) (Ev.now _)
    simp only [spec_DropAttributes.j0]
    rw [if_true]
  | true =>
    refine Ev.congr (fun k => by rw [if_pos rfl, specSet_val, Option.bind_some, show isSetB n a = atsB n l a from by unfold atsB; rw [hc, Bool.true_and]]) ?_
    cases h : atsB n l a with
    | false =>
      rw [if_neg (by decide)]
      refine Ev.step (f := fun _ => some (0, [], false)) (fun k => ?_) (Ev.now _)
      simp only [spec_DropAttributes.j0, Bool.not_false]
      rw [if_true]
    | true =>
      obtain ⟨_, m, R, a', rfl, hm, rfl, hR, hb, rfl, ha⟩ := ats_nat h
      have hrow := fun i => lt_256 (show m ≤ 8 by omega) (row_lt hb i)
      have hf := full_256 (show m ≤ 8 by omega)
      have hle : a' ≤ full m := by unfold full; omega
      have hd : diff (full m) a' < 256 := Nat.lt_of_le_of_lt (diff_le _ _) hf
      rw [if_pos rfl, uncast, Int.toNat_natCast, Int.toNat_natCast, cast_length]
      refine Ev.step (f := fun k => (spec_CountOf.f k ((diff (full m) a' : Nat) : Int)).bind fun t => spec_DropAttributes.l0 k ((diff (full m) a' : Nat) : Int) ((0 : Nat) : Int) (m : Int) (cast R) t []) (fun k => ?_) ?_
      · simp only [spec_DropAttributes.j0, Bool.not_true]
        rw [if_neg (by decide), fullS_val, Option.bind_some, fullN (by omega), show wrap64 (((full m : Nat) : Int) - (a' : Int)) = ((full m - a' : Nat) : Int) from by unfold wrap64; omega, full_sub_row ha]
        rfl
      · refine Ev.bind (countS_val hd) ?_
        generalize diff (full m) a' = c at *
        refine ev_fold (g := fun k (b : List Int) i => spec_DropAttributes.l0 k (c : Int) i (m : Int) (cast R) (((elN c).length : Nat) : Int) b) (fun i _ => cast (leftR R 0 c (i + 1))) (fun i b => b = cast (leftR R 0 c i)) (N := R.length) ?_ (fun i a hi h => rfl) R.length 0 [] (by omega) rfl ?_
        · intro i b hi hb' h
          have hl := leftR_length R 0 c i
          have hal : b.length ≤ 8 := by rw [hb', cast_length]; omega
          rw [leftR_succ, if_neg (by rw [Nat.zero_testBit]; decide), cast_append, ← hb'] at h
          refine Ev.step (f := fun k => (spec_l7Pack.f k ((row R i : Nat) : Int) (c : Int)).bind fun t => spec_DropAttributes.l0 k (c : Int) ((i + 1 : Nat) : Int) (m : Int) (cast R) (((elN c).length : Nat) : Int) (b ++ [t])) (fun k => ?_) ?_
          · simp only [spec_DropAttributes.l0]
            rw [if_pos (by rw [cast_length]; omega), if_pos (by omega), wrap_succ hi (by omega), rd_row]
            simp only [if_pos (show b.length < 17592186044416 by omega)]
          · exact Ev.bind (packS_val (hrow i) hd) h
        · intro b _ hb'
          refine Ev.step (f := fun _ => some ((((elN c).length : Nat) : Int), b, true)) (fun k => ?_) ?_
          · simp only [spec_DropAttributes.l0]
            rw [if_neg (by rw [cast_length]; omega)]
          · rw [hb']; exact Ev.now _
end Go.Proofs.Ytafnamchckehmaa.Pu
namespace Go.Proofs.Ytafnamchckehmaa.Pu
open Go.RowKit Go.Proofs.YtafnamchckehmaaW.PrintWords Go.Proofs.YtafnamchckehmaaW.PrintLast Go.Proofs.YtafnamchckehmaaW.PrintMore Go.Proofs.Ytafnamchckehmaa.Pr
theorem mem_cast {R : List Nat} {x : Nat} : ((x : Int) ∈ cast R) ↔ x ∈ R := by
  unfold cast
  rw [List.mem_map]
  constructor
  · rintro ⟨y, hy, e⟩
    have : y = x := by omega
    subst this
    exact hy
  · intro h; exact ⟨x, h, rfl⟩
def repV (L : List Nat) : Nat := ofBits (fun i => decide (row L i ∈ L.take i)) L.length
theorem cast_take (L : List Nat) (i : Nat) : (cast L).take i = cast (L.take i) := by unfold cast; rw [List.map_take]
theorem repI_val (L : List Nat) (hL : L.length ≤ 8) : Ev (fun k => impl_repeated.f k (cast L)) ((repV L : Nat) : Int) := by
  unfold impl_repeated.f
  refine ev_fold (g := fun k (a : Nat) i => impl_repeated.l0 k (cast L) (a : Int) (cast L) ((cast L).length : Int) i) (bitStep fun i => decide (row L i ∈ L.take i)) (fun _ a => a < 2 ^ L.length) (N := L.length) ?_ (fun i a hi h => bitStep_lt hi h) L.length 0 0 (by omega) (Nat.two_pow_pos _) ?_
  · intro i a hi ha h
    have ha' := lt_256 hL ha
    refine Ev.step (f := fun k => (slices_Contains_int.f k (cast (L.take i)) ((row L i : Nat) : Int)).bind fun t => if t = true then impl_repeated.l0 k (cast L) ((a ||| 2 ^ i : Nat) : Int) (cast L) ((cast L).length : Int) ((i + 1 : Nat) : Int) else impl_repeated.l0 k (cast L) (a : Int) (cast L) ((cast L).length : Int) ((i + 1 : Nat) : Int)) (fun k => ?_) ?_
    · simp only [impl_repeated.l0]
      rw [if_pos (by rw [cast_length]; omega), if_pos (by omega), if_pos (by rw [cast_length]; omega), if_pos (by rw [cast_length]; omega), Int.toNat_natCast, cast_take, rd_row, or_bit ha' (by omega), wrap_succ hi (by omega)]
    · refine Ev.bind (containsI_val _ (by rw [cast_length, List.length_take]; omega) _) ?_
      rw [show decide (((row L i : Nat) : Int) ∈ cast (L.take i)) = decide (row L i ∈ L.take i) from decide_eq_decide.2 mem_cast]
      unfold bitStep at h
      by_cases h1 : decide (row L i ∈ L.take i) = true
      · rw [if_pos h1] at h
        exact Ev.congr (fun k => by rw [if_pos h1]) h
      · rw [if_neg h1] at h
        exact Ev.congr (fun k => by rw [if_neg h1]) h
  · intro b hb _
    refine Ev.step (f := fun _ => some (b : Int)) (fun k => ?_) ?_
    · simp only [impl_repeated.l0]
      rw [if_neg (by rw [cast_length]; omega)]
    · rw [hb, fold_bits]; exact Ev.now _
def ddR (R : List Nat) : Nat → List Nat
  | 0 => []
  | i + 1 => if row R i ∈ ddR R i then ddR R i else ddR R i ++ [row R i]
theorem take_succ_row {R : List Nat} {i : Nat} (h : i < R.length) : R.take (i + 1) = R.take i ++ [row R i] := by
  rw [List.take_succ_eq_append_getElem h]
  unfold row
  rw [List.getD_eq_getElem?_getD, List.getElem?_eq_getElem h]
  rfl
theorem mem_ddR (R : List Nat) : ∀ i, i ≤ R.length → ∀ x, x ∈ ddR R i ↔ x ∈ R.take i
  | 0, _, x => by simp [ddR]
  | i + 1, h, x => by
    rw [take_succ_row (by omega), List.mem_append, ← mem_ddR R i (by omega), ddR]
    by_cases hc : row R i ∈ ddR R i
    · rw [if_pos hc, List.mem_singleton]
      exact ⟨Or.inl, fun h => h.elim id fun h => by rw [h]; exact hc⟩
    · rw [if_neg hc, List.mem_append]
theorem kept_dd (R : List Nat) : ∀ i, i ≤ R.length → keptR R (repV R) i = ddR R i
  | 0, _ => rfl
  | i + 1, h => by
    rw [keptR_succ, kept_dd R i (by omega), ddR]
    have hb : (repV R).testBit i = decide (row R i ∈ R.take i) := by
      unfold repV
      rw [testBit_ofBits, decide_eq_true (show i < R.length by omega), Bool.true_and]
    by_cases hc : row R i ∈ ddR R i
    · rw [if_pos hc, if_pos (by rw [hb, decide_eq_true_iff]; exact (mem_ddR R i (by omega) _).1 hc)]
    · rw [if_neg hc, if_neg (by rw [hb, decide_eq_true_iff]; exact fun h' => hc ((mem_ddR R i (by omega) _).2 h'))]
theorem ddR_length (R : List Nat) : ∀ i, (ddR R i).length ≤ i
  | 0 => Nat.le_refl _
  | i + 1 => by
    have := ddR_length R i
    rw [ddR]
    split
    · omega
    · rw [List.length_append, List.length_singleton]; omega
theorem ddR_lt {R : List Nat} {q : Nat} (hb : ∀ r ∈ R, r < 2 ^ q) : ∀ i, ∀ r ∈ ddR R i, r < 2 ^ q
  | 0, r, h => by cases h
  | i + 1, r, h => by
    rw [ddR] at h
    split at h
    · exact ddR_lt hb i r h
    · rcases List.mem_append.1 h with h | h
      · exact ddR_lt hb i r h
      · rw [List.mem_singleton.1 h]; exact row_lt hb i
def sameV (m : Nat) (D : List Nat) : Nat := ofBits (fun j => decide (∃ i, i < j ∧ col D i = col D j)) m
theorem sameV_lt (m : Nat) (D : List Nat) : sameV m D < 2 ^ m := ofBits_lt _ _
theorem rep_cols (m : Nat) (D : List Nat) : repV (cols m D) = sameV m D := by
  unfold repV sameV
  rw [cols_length]
  refine ofBits_congr fun j hj => ?_
  rw [decide_eq_decide, row_cols D hj]
  unfold cols
  rw [← List.map_take, List.take_range, Nat.min_eq_left (by omega), List.mem_map]
  constructor
  · rintro ⟨i, hi, e⟩
    exact ⟨i, List.mem_range.1 hi, e⟩
  · rintro ⟨i, hi, e⟩
    exact ⟨i, List.mem_range.2 hi, e⟩
def clarV (n : Int) (l : List Int) : Int × List Int × Bool := if ctxB n l = true then dropAV n (cast (ddR (l.map Int.toNat) l.length)) ((sameV n.toNat (ddR (l.map Int.toNat) l.length) : Nat) : Int) else (0, [], false)
theorem clarV_length (n : Int) (l : List Int) : (clarV n l).2.1.length ≤ l.length := by
  unfold clarV
  split
  · refine Nat.le_trans (dropAV_length _ _ _) ?_
    rw [cast_length]
    exact ddR_length _ _
  · exact Nat.zero_le _
theorem dropA_nat {m : Nat} (hm : m ≤ 6) {D : List Nat} (hD : D.length ≤ 8) (hb : ∀ r ∈ D, r < 2 ^ m) {a : Nat} (ha : a < 2 ^ m) : dropAV (m : Int) (cast D) (a : Int) = ((((elN (diff (full m) a)).length : Nat) : Int), cast (leftR D 0 (diff (full m) a) D.length), true) := by
  unfold dropAV
  rw [show atsB (m : Int) (cast D) (a : Int) = true from by unfold atsB; rw [ctxB_mk hm hD hb, isSetB_mk (by omega) ha]; rfl, if_pos rfl, uncast, Int.toNat_natCast, Int.toNat_natCast, cast_length]
theorem clarI_val (n : Int) (l : List Int) (_hl : l.length ≤ 1048576) : Ev (fun k => impl_Clarify.f k n l) (clarV n l) := by
  unfold impl_Clarify.f clarV
  rw [ctxI_val]
  simp only [Option.bind_some]
  cases hc : ctxB n l with
  | false => exact Ev.congr (fun k => by rw [if_neg (by decide), if_neg (by decide)]) (Ev.now _)
  | true =>
    obtain ⟨m, R, rfl, hm, rfl, hR, hb⟩ := ctxB_nat hc
    have hrow := fun i => lt_256 (show m ≤ 8 by omega) (row_lt hb i)
    have hrep : repV R < 256 := lt_256 hR (ofBits_lt _ _)
    have hD := Nat.le_trans (ddR_length R R.length) hR
    have hDb := ddR_lt hb R.length
    rw [if_pos rfl, uncast, Int.toNat_natCast, cast_length, dropA_nat hm hD hDb (sameV_lt m _)]
    refine Ev.congr (fun k => by rw [if_pos rfl]) ?_
    refine Ev.bind (repI_val R hR) ?_
    refine Ev.bind (withI_val m (by omega) R hR hrow _ 0 hrep (by decide)) ?_
    rw [diff_zero, elN_full (by omega), List.length_range, leftR_full (by omega) hb, kept_dd R _ (Nat.le_refl _)]
    refine Ev.bind (colsI_val (ctxB_mk hm hD hDb) rfl rfl hm hD hDb) ?_
    refine Ev.bind (repI_val (cols m (ddR R R.length)) (by rw [cols_length]; omega)) ?_
    rw [rep_cols]
    refine Ev.bind (withI_val m (by omega) _ hD (fun i => lt_256 (by omega) (row_lt hDb i)) 0 _ (by decide) (lt_256 (by omega) (sameV_lt m _))) ?_
    exact Ev.now _
theorem clarS_l2 {m : Nat} (hm : m ≤ 6) {D : List Nat} (hD : D.length ≤ 8) (hrow : ∀ i, row D i < 256) {j : Nat} (hj : j < m) {g : Nat} (hg : g < 2 ^ j) {res : Int × List Int × Bool}
    (h : Ev (fun k => spec_Clarify.l1 k ((bitStep (fun j => decide (∃ i, i < j ∧ col D i = col D j)) j g : Nat) : Int) ((j + 1 : Nat) : Int) (m : Int) (cast D)) res) : Ev (fun k => spec_Clarify.l2 k (g : Int) (j : Int) 0 (m : Int) (cast D)) res := by
  have hg' : g < 256 := lt_256 (show j ≤ 8 by omega) hg
  have h7 : 2 ^ j ≤ 2 ^ 7 := Nat.pow_le_pow_right (by decide) (by omega)
  refine ev_fold (g := fun k (a : Nat) i => spec_Clarify.l2 k (a : Int) (j : Int) i (m : Int) (cast D)) (fun i a => if col D i = col D j then a ||| 2 ^ j else a) (fun i a => a = if ∃ q, q < i ∧ col D q = col D j then g ||| 2 ^ j else g) (N := j) ?_ ?_ j 0 g (by omega) (by rw [if_neg (by rintro ⟨q, hq, _⟩; omega)]) ?_
  · intro i a hi ha h
    have ha' : a < 256 := by
      rw [ha]
      split
      · exact Nat.or_lt_two_pow (n := 8) hg' (by omega)
      · exact hg'
    refine Ev.step (f := fun k => (spec_l3Column.f k (m : Int) (cast D) (i : Int)).bind fun t => (spec_l3Column.f k (m : Int) (cast D) (j : Int)).bind fun u => if t = u then spec_Clarify.l2 k ((a ||| 2 ^ j : Nat) : Int) (j : Int) ((i + 1 : Nat) : Int) (m : Int) (cast D) else spec_Clarify.l2 k (a : Int) (j : Int) ((i + 1 : Nat) : Int) (m : Int) (cast D)) (fun k => ?_) ?_
    · simp only [spec_Clarify.l2]
      rw [if_pos (by omega), wrapU_small _ (by omega) (by omega), or_bit ha' (by omega), wrap_succ hi (by omega)]
      simp only [if_pos (show (0 : Int) ≤ (j : Int) by omega)]
    · refine Ev.bind (colS_val D hD hrow _ i (by omega)) ?_
      refine Ev.bind (colS_val D hD hrow _ j (by omega)) ?_
      by_cases h1 : col D i = col D j
      · rw [if_pos h1] at h
        exact Ev.congr (fun k => by rw [if_pos (by rw [h1])]) h
      · rw [if_neg h1] at h
        exact Ev.congr (fun k => by rw [if_neg (by omega)]) h
  · intro i a hi ha
    rw [ha]
    by_cases h1 : col D i = col D j
    · rw [if_pos h1, if_pos (show ∃ q, q < i + 1 ∧ col D q = col D j from ⟨i, by omega, h1⟩)]
      split
      · rw [Nat.or_assoc, Nat.or_self]
      · rfl
    · rw [if_neg h1]
      by_cases h2 : ∃ q, q < i ∧ col D q = col D j
      · obtain ⟨q, hq, e⟩ := h2
        rw [if_pos ⟨q, hq, e⟩, if_pos ⟨q, by omega, e⟩]
      · rw [if_neg h2, if_neg]
        rintro ⟨q, hq, e⟩
        by_cases hqi : q = i
        · subst hqi; exact h1 e
        · exact h2 ⟨q, by omega, e⟩
  · intro b _ hb
    refine Ev.step (fun k => ?_) h
    simp only [spec_Clarify.l2]
    rw [if_neg (by omega), wrap_succ hj (by omega), hb]
    unfold bitStep
    dsimp only
    by_cases h2 : ∃ q, q < j ∧ col D q = col D j
    · rw [if_pos h2, if_pos (decide_eq_true h2)]
    · rw [if_neg h2, if_neg (by rw [decide_eq_true_iff]; exact h2)]
theorem clarS_l1 {m : Nat} (hm : m ≤ 6) {D : List Nat} (hD : D.length ≤ 8) (hb : ∀ r ∈ D, r < 2 ^ m) : Ev (fun k => spec_Clarify.l1 k 0 0 (m : Int) (cast D)) (dropAV (m : Int) (cast D) ((sameV m D : Nat) : Int)) := by
  have hrow := fun i => lt_256 (show m ≤ 8 by omega) (row_lt hb i)
  refine ev_fold (g := fun k (a : Nat) i => spec_Clarify.l1 k (a : Int) i (m : Int) (cast D)) (bitStep fun j => decide (∃ i, i < j ∧ col D i = col D j)) (fun i a => a < 2 ^ i) (N := m) ?_ (fun i a hi h => bitStep_lt (Nat.lt_succ_self i) (Nat.lt_of_lt_of_le h (Nat.pow_le_pow_right (by decide) (Nat.le_succ i)))) m 0 0 (by omega) (by decide) ?_
  · intro j g hj hg h
    refine Ev.step (fun k => ?_) (clarS_l2 hm hD hrow hj hg h)
    simp only [spec_Clarify.l1]
    rw [if_pos (by omega)]
  · intro b hb' hlt
    refine Ev.step (f := fun k => (spec_DropAttributes.f k (m : Int) (cast D) (b : Int)).bind fun bt => some (bt.1, bt.2.1, bt.2.2)) (fun k => ?_) ?_
    · simp only [spec_Clarify.l1]
      rw [if_neg (by omega)]
    · rw [show sameV m D = b from by rw [hb', fold_bits]; rfl]
      exact Ev.bind (dropAS_val (m : Int) (cast D) (by rw [cast_length]; omega) (b : Int)) (Ev.now _)
theorem clarS_val (n : Int) (l : List Int) (hl : l.length ≤ 1048576) : Ev (fun k => spec_Clarify.f k n l) (clarV n l) := by
  unfold spec_Clarify.f clarV
  refine Ev.bind (ctxS_val n l (by omega)) ?_
  cases hc : ctxB n l with
  | false => exact Ev.congr (fun k => by rw [if_neg (by decide), if_neg (by decide)]) (Ev.now _)
  | true =>
    obtain ⟨m, R, rfl, hm, rfl, hR, hb⟩ := ctxB_nat hc
    rw [if_pos rfl, uncast, Int.toNat_natCast, cast_length]
    refine Ev.congr (fun k => by rw [if_pos rfl]) ?_
    refine ev_fold (g := fun k (a : List Int) i => spec_Clarify.l0 k i (m : Int) (cast R) (m : Int) a) (fun i _ => cast (ddR R (i + 1))) (fun i a => a = cast (ddR R i)) (N := R.length) ?_ (fun i a hi h => rfl) R.length 0 [] (by omega) rfl ?_
    · intro i a hi ha h
      have hdl := ddR_length R i
      have hal : a.length ≤ 8 := by rw [ha, cast_length]; omega
      refine Ev.step (f := fun k => (spec_l2In.f k a ((row R i : Nat) : Int)).bind fun t => if t = true then spec_Clarify.l0 k ((i + 1 : Nat) : Int) (m : Int) (cast R) (m : Int) a else spec_Clarify.l0 k ((i + 1 : Nat) : Int) (m : Int) (cast R) (m : Int) (a ++ [((row R i : Nat) : Int)])) (fun k => ?_) ?_
      · simp only [spec_Clarify.l0]
        rw [if_pos (by rw [cast_length]; omega), if_pos (by omega), rd_row, wrap_succ hi (by omega)]
        simp only [if_pos (show a.length < 17592186044416 by omega)]
      · refine Ev.bind (l2In_val a (by omega) _) ?_
        rw [ha, show decide (((row R i : Nat) : Int) ∈ cast (ddR R i)) = decide (row R i ∈ ddR R i) from decide_eq_decide.2 mem_cast]
        rw [ddR] at h
        by_cases h1 : row R i ∈ ddR R i
        · rw [if_pos h1] at h
          exact Ev.congr (fun k => by rw [if_pos (decide_eq_true h1)]) h
        · rw [if_neg h1, cast_append] at h
          exact Ev.congr (fun k => by rw [if_neg (by rw [decide_eq_true_iff]; exact h1)]; rfl) h
    · intro b _ hb'
      refine Ev.step (f := fun k => spec_Clarify.l1 k 0 0 (m : Int) b) (fun k => ?_) ?_
      · simp only [spec_Clarify.l0]
        rw [if_neg (by rw [cast_length]; omega)]
      · rw [hb']
        exact clarS_l1 hm (Nat.le_trans (ddR_length R R.length) hR) (ddR_lt hb R.length)
end Go.Proofs.Ytafnamchckehmaa.Pu
namespace Go.Proofs.Ytafnamchckehmaa.Pu
open Go.RowKit Go.Proofs.YtafnamchckehmaaW.PrintWords Go.Proofs.YtafnamchckehmaaW.PrintLast Go.Proofs.YtafnamchckehmaaW.PrintMore Go.Proofs.Ytafnamchckehmaa.Pr
def dropN (m : Nat) (D : List Nat) (a : Nat) : Nat × List Nat := ((elN (diff (full m) a)).length, leftR D 0 (diff (full m) a) D.length)
def okC (C : Nat × List Nat) : Prop := C.1 ≤ 6 ∧ C.2.length ≤ 8 ∧ ∀ r ∈ C.2, r < 2 ^ C.1
theorem elN_6 : ∀ a : Fin 64, (elN a.val).length ≤ 6 := by decide +kernel
theorem leftR_lt (R : List Nat) (o c i : Nat) : ∀ r ∈ leftR R o c i, r < 2 ^ (elN c).length := by
  intro r hr
  unfold leftR at hr
  obtain ⟨j, _, rfl⟩ := List.mem_map.1 hr
  exact pack_lt _ _
theorem diff_64 {m a : Nat} (hm : m ≤ 6) : diff (full m) a < 64 := by
  refine Nat.lt_of_le_of_lt (diff_le _ _) (Nat.lt_of_lt_of_le (full_lt m) ?_)
  exact show 2 ^ m ≤ 2 ^ 6 from Nat.pow_le_pow_right (by decide) hm
theorem dropN_ok {m : Nat} (hm : m ≤ 6) {D : List Nat} (hD : D.length ≤ 8) (a : Nat) : okC (dropN m D a) :=
  ⟨elN_6 ⟨_, diff_64 hm⟩, Nat.le_trans (leftR_length _ _ _ _) hD, leftR_lt _ _ _ _⟩
def clarN (m : Nat) (R : List Nat) : Nat × List Nat := dropN m (ddR R R.length) (sameV m (ddR R R.length))
theorem clarN_ok {m : Nat} (hm : m ≤ 6) {R : List Nat} (hR : R.length ≤ 8) : okC (clarN m R) := dropN_ok hm (Nat.le_trans (ddR_length R R.length) hR) _
theorem clarV_nat {m : Nat} (hm : m ≤ 6) {R : List Nat} (hR : R.length ≤ 8) (hb : ∀ r ∈ R, r < 2 ^ m) : clarV (m : Int) (cast R) = (((clarN m R).1 : Int), cast (clarN m R).2, true) := by
  unfold clarV
  rw [ctxB_mk hm hR hb, if_pos rfl, uncast, Int.toNat_natCast, cast_length, dropA_nat hm (Nat.le_trans (ddR_length R R.length) hR) (ddR_lt hb R.length) (sameV_lt m _)]
  rfl
theorem keptR_lt {R : List Nat} {q : Nat} (hb : ∀ r ∈ R, r < 2 ^ q) (o i : Nat) : ∀ r ∈ keptR R o i, r < 2 ^ q := by
  intro r hr
  unfold keptR at hr
  obtain ⟨j, _, rfl⟩ := List.mem_map.1 hr
  exact row_lt hb j
def redO (C : Nat × List Nat) : Nat := ofBits (fun g => redObjV (C.1 : Int) (cast C.2) (g : Int)) C.2.length
def redA (C : Nat × List Nat) : Nat := ofBits (fun j => redAttrV (C.1 : Int) (cast C.2) (j : Int)) C.1
def keepO (C : Nat × List Nat) : Nat × List Nat := (C.1, keptR C.2 (redO C) C.2.length)
theorem keepO_ok {C : Nat × List Nat} (h : okC C) : okC (keepO C) := ⟨h.1, Nat.le_trans (keptR_length _ _ _) h.2.1, keptR_lt h.2.2 _ _⟩
def redN (m : Nat) (R : List Nat) : Nat × List Nat := dropN (keepO (clarN m R)).1 (keepO (clarN m R)).2 (redA (keepO (clarN m R)))
def redV (n : Int) (l : List Int) : Int × List Int × Bool := if ctxB n l = true then (((redN n.toNat (l.map Int.toNat)).1 : Int), cast (redN n.toNat (l.map Int.toNat)).2, true) else (0, [], false)
theorem redV_length (n : Int) (l : List Int) : (redV n l).2.1.length ≤ l.length := by
  unfold redV
  split
  · show (cast _).length ≤ _
    rw [cast_length]
    refine Nat.le_trans (leftR_length _ _ _ _) (Nat.le_trans (keptR_length _ _ _) (Nat.le_trans (leftR_length _ _ _ _) (Nat.le_trans (ddR_length _ _) ?_)))
    rw [List.length_map]
    exact Nat.le_refl _
  · exact Nat.zero_le _
end Go.Proofs.Ytafnamchckehmaa.Pu
namespace Go.Proofs.Ytafnamchckehmaa.Pu
open Go.RowKit Go.Proofs.YtafnamchckehmaaW.PrintWords Go.Proofs.YtafnamchckehmaaW.PrintLast Go.Proofs.YtafnamchckehmaaW.PrintMore Go.Proofs.Ytafnamchckehmaa.Pr
theorem testBit_fold_by (L : List Nat) (s j : Nat) : ∀ (d i f : Nat), i + d = L.length → ((foldIdx (byStep L s) i L.length f).testBit j = true ↔ f.testBit j = true ∧ ∀ g, i ≤ g → g < L.length → row L g ≠ s → sub s (row L g) = true → (row L g).testBit j = true) := by
  intro d
  induction d with
  | zero =>
    intro i f h
    rw [foldIdx_end _ (by omega)]
    exact ⟨fun h => ⟨h, fun g h1 h2 => by omega⟩, fun h => h.1⟩
  | succ d ih =>
    intro i f h
    have hi : i < L.length := by omega
    rw [foldIdx_step _ hi f, ih (i + 1) _ (by omega)]
    unfold byStep
    by_cases hc : row L i ≠ s ∧ sub s (row L i) = true
    · rw [if_pos hc, Nat.testBit_and, Bool.and_eq_true]
      constructor
      · rintro ⟨⟨h1, h2⟩, h3⟩
        refine ⟨h1, fun g hg hg' k1 k2 => ?_⟩
        by_cases e : g = i
        · subst e; exact h2
        · exact h3 g (by omega) hg' k1 k2
      · rintro ⟨h1, h2⟩
        exact ⟨⟨h1, h2 i (Nat.le_refl _) hi hc.1 hc.2⟩, fun g hg hg' => h2 g (by omega) hg'⟩
    · rw [if_neg hc]
      constructor
      · rintro ⟨h1, h3⟩
        refine ⟨h1, fun g hg hg' k1 k2 => ?_⟩
        by_cases e : g = i
        · subst e; exact absurd ⟨k1, k2⟩ hc
        · exact h3 g (by omega) hg' k1 k2
      · rintro ⟨h1, h2⟩
        exact ⟨h1, fun g hg hg' => h2 g (by omega) hg'⟩
theorem testBit_bey (L : List Nat) (s f j : Nat) : (bey L s f).testBit j = true ↔ f.testBit j = true ∧ ∀ g, g < L.length → row L g ≠ s → sub s (row L g) = true → (row L g).testBit j = true := by
  unfold bey
  rw [testBit_fold_by L s j L.length 0 f (by omega)]
  exact ⟨fun h => ⟨h.1, fun g h1 => h.2 g (Nat.zero_le _) h1⟩, fun h => ⟨h.1, fun g _ h1 => h.2 g h1⟩⟩
theorem sub_bey {L : List Nat} {s f : Nat} (h : sub s f = true) : sub s (bey L s f) = true :=
  sub_iff.2 fun i hi => (testBit_bey L s f i).2 ⟨sub_iff.1 h i hi, fun _ _ _ h2 => sub_iff.1 h2 i hi⟩
theorem sub_full_of {m a : Nat} (h : a < 2 ^ m) : sub a (full m) = true := sub_iff.2 fun i hi => by
  rw [testBit_full, decide_eq_true_iff]
  rcases Nat.lt_or_ge i m with h' | h'
  · exact h'
  · rw [lt_two_pow_iff.1 h i h'] at hi; cases hi
theorem bey_eq_iff {L : List Nat} {s f : Nat} (h : sub s f = true) : bey L s f = s ↔ ∀ i, (bey L s f).testBit i = true → s.testBit i = true :=
  ⟨fun e i hi => by rw [e] at hi; exact hi, fun k => (sub_antisymm (sub_bey h) (sub_iff.2 k)).symm⟩
theorem col_bit {R : List Nat} {g : Nat} (hg : g < R.length) (j : Nat) : (col R j).testBit g = (row R g).testBit j := by unfold col; rw [testBit_ofBits, decide_eq_true hg, Bool.true_and]
end Go.Proofs.Ytafnamchckehmaa.Pu
namespace Go.Proofs.Ytafnamchckehmaa.Pu
open Go.RowKit Go.Proofs.YtafnamchckehmaaW.PrintWords Go.Proofs.YtafnamchckehmaaW.PrintLast Go.Proofs.YtafnamchckehmaaW.PrintMore Go.Proofs.Ytafnamchckehmaa.Pr
def numC (m : Nat) (R : List Nat) : Nat := ((List.range (2 ^ m)).filter fun s => decide (cl m R s = s)).length
theorem getD_mem {L : List Nat} {i : Nat} (h : i < L.length) : row L i ∈ L := by
  unfold row
  rw [List.getD_eq_getElem?_getD, List.getElem?_eq_getElem h]
  exact List.getElem_mem h
theorem mem_at {L : List Nat} {x : Nat} (h : x ∈ L) : ∃ i, i < L.length ∧ row L i = x := by
  obtain ⟨i, hi, e⟩ := List.getElem_of_mem h
  exact ⟨i, hi, by unfold row; rw [List.getD_eq_getElem?_getD, List.getElem?_eq_getElem hi]; exact e⟩
theorem cl_bit {m : Nat} {R : List Nat} {a j : Nat} : (cl m R a).testBit j = true ↔ j < m ∧ ∀ r ∈ R, sub a r = true → r.testBit j = true := by
  rw [testBit_cl]
  refine and_congr_right fun _ => ⟨fun h r hr hs => ?_, fun h g hg => h _ (getD_mem hg)⟩
  obtain ⟨i, hi, rfl⟩ := mem_at hr
  exact h i hi hs
theorem cl_rows {m : Nat} {R S : List Nat} (h : ∀ r, r ∈ R ↔ r ∈ S) (a : Nat) : cl m R a = cl m S a := by
  refine Nat.eq_of_testBit_eq fun j => ?_
  rw [Bool.eq_iff_iff, cl_bit, cl_bit]
  exact and_congr_right fun _ => ⟨fun k r hr => k r ((h r).2 hr), fun k r hr => k r ((h r).1 hr)⟩
theorem numC_congr {m : Nat} {R S : List Nat} (h : ∀ a, a < 2 ^ m → (cl m R a = a ↔ cl m S a = a)) : numC m R = numC m S := by
  unfold numC
  congr 1
  refine List.filter_congr fun s hs => ?_
  rw [decide_eq_decide]
  exact h s (List.mem_range.1 hs)
theorem cl_kept {m : Nat} {R S : List Nat} (hb : ∀ r ∈ R, r < 2 ^ m) (hS : ∀ r ∈ S, r ∈ R) (h : ∀ r ∈ R, r ∈ S ∨ ∀ j, j < m → (∀ x ∈ R, x ≠ r → sub r x = true → x.testBit j = true) → r.testBit j = true) (a : Nat) : cl m S a = cl m R a := by
  have key : ∀ (k r : Nat), 2 ^ m - r < k → r ∈ R → ∀ j, j < m → (∀ x ∈ S, sub r x = true → x.testBit j = true) → r.testBit j = true := by
    intro k
    induction k with
    | zero => intro r hk; omega
    | succ k ih =>
      intro r hk hr j hj hall
      rcases h r hr with hs | hs
      · exact hall r hs (sub_refl r)
      · refine hs j hj fun x hx hne hsub => ?_
        have hlt : r < x := by have := sub_le hsub; omega
        have := hb x hx
        exact ih x (by omega) hx j hj fun y hy hxy => hall y hy (sub_trans hsub hxy)
  refine Nat.eq_of_testBit_eq fun j => ?_
  rw [Bool.eq_iff_iff, cl_bit, cl_bit]
  refine and_congr_right fun hj => ⟨fun k r hr hs => ?_, fun k r hr => k r (hS r hr)⟩
  exact key (2 ^ m - r + 1) r (by omega) hr j hj fun x hx hrx => k x hx (sub_trans hs hrx)
def tells (m : Nat) (R : List Nat) (K : Nat) : Prop := ∀ j, j < m → K.testBit j = false → ∀ r ∈ R, (∀ i, i < m → K.testBit i = true → (∀ x ∈ R, x.testBit j = true → x.testBit i = true) → r.testBit i = true) → r.testBit j = true
theorem mem_elK {K m j : Nat} (hm : m ≤ 8) (hK : K < 2 ^ m) : j ∈ elN K ↔ K.testBit j = true := by
  have h256 := pow_le_256 hm
  unfold elN
  rw [List.mem_filter, List.mem_range]
  refine ⟨fun h => h.2, fun h => ⟨?_, h⟩⟩
  have := testBit_lt hK h
  omega
theorem pack_bit (s K k : Nat) : (pack s K).testBit k = (decide (k < (elN K).length) && s.testBit (row (elN K) k)) := by
  unfold pack
  rw [testBit_ofBits]
def unpack (t K m : Nat) : Nat := ofBits (fun j => (List.range (elN K).length).any fun k => t.testBit k && decide (row (elN K) k = j)) m
theorem unpack_bit {t K m j : Nat} : (unpack t K m).testBit j = true ↔ j < m ∧ ∃ k, k < (elN K).length ∧ t.testBit k = true ∧ row (elN K) k = j := by
  unfold unpack
  rw [testBit_ofBits, Bool.and_eq_true, decide_eq_true_iff, List.any_eq_true]
  refine and_congr_right fun _ => ⟨fun ⟨k, h1, h2⟩ => ?_, fun ⟨k, h1, h2, h3⟩ => ⟨k, List.mem_range.2 h1, by rw [h2, decide_eq_true h3]; rfl⟩⟩
  rw [Bool.and_eq_true, decide_eq_true_iff] at h2
  exact ⟨k, List.mem_range.1 h1, h2.1, h2.2⟩
variable {m K : Nat} {R : List Nat}
theorem sub_pack (hm : m ≤ 8) (hK : K < 2 ^ m) {t r : Nat} (ht : t < 2 ^ (elN K).length) : sub t (pack r K) = true ↔ sub (unpack t K m) r = true := by
  rw [sub_iff, sub_iff]
  constructor
  · intro h j hj
    obtain ⟨_, k, hk, h1, rfl⟩ := unpack_bit.1 hj
    have := h k h1
    rw [pack_bit, Bool.and_eq_true] at this
    exact this.2
  · intro h k hk
    have hkl := testBit_lt ht hk
    rw [pack_bit, decide_eq_true hkl, Bool.true_and]
    refine h _ (unpack_bit.2 ⟨?_, k, hkl, hk, rfl⟩)
    exact testBit_lt hK ((mem_elK hm hK).1 (getD_mem hkl))
theorem cl_pack (hm : m ≤ 8) (hK : K < 2 ^ m) {t : Nat} (ht : t < 2 ^ (elN K).length) : cl (elN K).length (R.map fun r => pack r K) t = pack (cl m R (unpack t K m)) K := by
  refine Nat.eq_of_testBit_eq fun k => ?_
  rw [Bool.eq_iff_iff, cl_bit, pack_bit, Bool.and_eq_true, decide_eq_true_iff]
  refine and_congr_right fun hk => ?_
  have hkm := testBit_lt hK ((mem_elK hm hK).1 (getD_mem hk))
  rw [cl_bit]
  constructor
  · intro h
    refine ⟨hkm, fun r hr hs => ?_⟩
    have := h (pack r K) (List.mem_map.2 ⟨r, hr, rfl⟩) ((sub_pack hm hK ht).2 hs)
    rw [pack_bit, Bool.and_eq_true] at this
    exact this.2
  · rintro ⟨_, h⟩ p hp hs
    obtain ⟨r, hr, rfl⟩ := List.mem_map.1 hp
    rw [pack_bit, decide_eq_true hk, Bool.true_and]
    exact h r hr ((sub_pack hm hK ht).1 hs)
theorem cl_part (hm : m ≤ 8) (hK : K < 2 ^ m) (hT : tells m R K) {s : Nat} (hs : s < 2 ^ m) (hc : cl m R s = s) : cl m R (unpack (pack s K) K m) = s := by
  have hin : ∀ i, i < m → K.testBit i = true → s.testBit i = true → (unpack (pack s K) K m).testBit i = true := by
    intro i hi hKi hsi
    obtain ⟨k, hk, e⟩ := mem_at ((mem_elK hm hK).2 hKi)
    exact unpack_bit.2 ⟨hi, k, hk, by rw [pack_bit, decide_eq_true hk, e, hsi]; rfl, e⟩
  have hsub : sub (unpack (pack s K) K m) s = true := sub_iff.2 fun j hj => by
    obtain ⟨_, k, hk, h1, rfl⟩ := unpack_bit.1 hj
    rw [pack_bit, Bool.and_eq_true] at h1
    exact h1.2
  refine sub_antisymm ?_ (sub_iff.2 fun j hj => ?_)
  · have := cl_mono (n := m) (rows := R) hsub
    rwa [hc] at this
  · refine cl_bit.2 ⟨testBit_lt hs hj, fun r hr hr2 => ?_⟩
    by_cases hKj : K.testBit j = true
    · exact sub_iff.1 hr2 j (hin j (testBit_lt hs hj) hKj hj)
    · refine hT j (testBit_lt hs hj) (by simpa using hKj) r hr fun i hi hKi hall => ?_
      refine sub_iff.1 hr2 i (hin i hi hKi ?_)
      rw [← hc]
      exact cl_bit.2 ⟨hi, fun x hx hsx => hall x hx (sub_iff.1 hsx j hj)⟩
theorem numC_pack (hm : m ≤ 8) (hK : K < 2 ^ m) (hT : tells m R K) : numC (elN K).length (R.map fun r => pack r K) = numC m R := by
  have hn1 : ((List.range (2 ^ (elN K).length)).filter fun t => decide (cl (elN K).length (R.map fun r => pack r K) t = t)).Nodup := List.nodup_range.filter _
  have hn2 : ((List.range (2 ^ m)).filter fun s => decide (cl m R s = s)).Nodup := List.nodup_range.filter _
  have inj1 : ∀ (f : Nat → Nat) (A B : List Nat), A.Nodup → (∀ x ∈ A, f x ∈ B) → (∀ x ∈ A, ∀ y ∈ A, f x = f y → x = y) → A.length ≤ B.length := by
    intro f A B hA hB hi
    have hN : (A.map f).Nodup := by
      refine List.pairwise_map.2 ?_
      refine List.Pairwise.imp_of_mem ?_ hA
      intro a b ha hb hne e
      exact hne (hi a ha b hb e)
    have := hN.length_le_of_subset (l₂ := B) fun x hx => by
      obtain ⟨y, hy, rfl⟩ := List.mem_map.1 hx
      exact hB y hy
    rwa [List.length_map] at this
  unfold numC
  refine Nat.le_antisymm ?_ ?_
  · refine inj1 (fun t => cl m R (unpack t K m)) _ _ hn1 (fun t ht => ?_) fun t ht t' ht' e => ?_
    · have hu : unpack t K m < 2 ^ m := ofBits_lt _ _
      exact List.mem_filter.2 ⟨List.mem_range.2 (cl_lt m R _), decide_eq_true (cl_idem hu)⟩
    · obtain ⟨h1, h2⟩ := List.mem_filter.1 ht
      obtain ⟨k1, k2⟩ := List.mem_filter.1 ht'
      have h1 := List.mem_range.1 h1
      have k1 := List.mem_range.1 k1
      have h2 := of_decide_eq_true h2
      have k2 := of_decide_eq_true k2
      rw [cl_pack hm hK h1] at h2
      rw [cl_pack hm hK k1] at k2
      rw [← h2, ← k2, e]
  · refine inj1 (fun s => pack s K) _ _ hn2 (fun s hs => ?_) fun s hs s' hs' e => ?_
    · obtain ⟨h1, h2⟩ := List.mem_filter.1 hs
      have h1 := List.mem_range.1 h1
      have h2 := of_decide_eq_true h2
      refine List.mem_filter.2 ⟨List.mem_range.2 (pack_lt s K), decide_eq_true ?_⟩
      rw [cl_pack hm hK (pack_lt s K), cl_part hm hK hT h1 h2]
    · obtain ⟨h1, h2⟩ := List.mem_filter.1 hs
      obtain ⟨k1, k2⟩ := List.mem_filter.1 hs'
      have h3 := cl_part hm hK hT (List.mem_range.1 h1) (of_decide_eq_true h2)
      have k3 := cl_part hm hK hT (List.mem_range.1 k1) (of_decide_eq_true k2)
      rw [e] at h3
      exact h3.symm.trans k3
theorem pack_sub (hm : m ≤ 8) (hK : K < 2 ^ m) (hT : tells m R K) (hb : ∀ r ∈ R, r < 2 ^ m) {r x : Nat} (hr : r ∈ R) (hx : x ∈ R) : sub (pack r K) (pack x K) = true ↔ sub r x = true := by
  constructor
  · intro h
    refine sub_iff.2 fun j hj => ?_
    have hjm := testBit_lt (hb r hr) hj
    have kept : ∀ i, i < m → K.testBit i = true → r.testBit i = true → x.testBit i = true := by
      intro i hi hKi hri
      obtain ⟨k, hk, e⟩ := mem_at ((mem_elK hm hK).2 hKi)
      have := sub_iff.1 h k (by rw [pack_bit, decide_eq_true hk, e, hri]; rfl)
      rw [pack_bit, e, Bool.and_eq_true] at this
      exact this.2
    by_cases hKj : K.testBit j = true
    · exact kept j hjm hKj hj
    · exact hT j hjm (by simpa using hKj) x hx fun i hi hKi hall => kept i hi hKi (hall r hr hj)
  · intro h
    refine sub_iff.2 fun k hk => ?_
    rw [pack_bit, Bool.and_eq_true] at hk ⊢
    exact ⟨hk.1, sub_iff.1 h _ hk.2⟩
def redRow (m : Nat) (R : List Nat) (r : Nat) : Prop := ∀ j, j < m → (∀ x ∈ R, x ≠ r → sub r x = true → x.testBit j = true) → r.testBit j = true
theorem redRow_pack (hm : m ≤ 8) (hK : K < 2 ^ m) (hT : tells m R K) (hb : ∀ r ∈ R, r < 2 ^ m) {r : Nat} (hr : r ∈ R) (h : redRow (elN K).length (R.map fun r => pack r K) (pack r K)) : redRow m R r := by
  have kept : ∀ i, i < m → K.testBit i = true → (∀ x ∈ R, x ≠ r → sub r x = true → x.testBit i = true) → r.testBit i = true := by
    intro i hi hKi hall
    obtain ⟨k, hk, e⟩ := mem_at ((mem_elK hm hK).2 hKi)
    have := h k hk fun p hp hne hs => by
      obtain ⟨x, hx, rfl⟩ := List.mem_map.1 hp
      rw [pack_bit, decide_eq_true hk, e, hall x hx (fun e' => hne (by rw [e'])) ((pack_sub hm hK hT hb hr hx).1 hs)]
      rfl
    rw [pack_bit, e, Bool.and_eq_true] at this
    exact this.2
  intro j hj hall
  by_cases hKj : K.testBit j = true
  · exact kept j hj hKj hall
  · exact hT j hj (by simpa using hKj) r hr fun i hi hKi hc => kept i hi hKi fun x hx hne hs => hc x hx (hall x hx hne hs)
theorem bey_row {m : Nat} {L : List Nat} {r : Nat} (hr : r < 2 ^ m) : bey L r (full m) = r ↔ redRow m L r := by
  rw [bey_eq_iff (sub_full_of hr)]
  unfold redRow
  constructor
  · intro h j hj hall
    refine h j ((testBit_bey L r (full m) j).2 ⟨by rw [testBit_full, decide_eq_true hj], fun g hg hne hs => hall _ (getD_mem hg) hne hs⟩)
  · intro h j hj
    obtain ⟨h1, h2⟩ := (testBit_bey L r (full m) j).1 hj
    rw [testBit_full, decide_eq_true_iff] at h1
    refine h j h1 fun x hx hne hs => ?_
    obtain ⟨g, hg, rfl⟩ := mem_at hx
    exact h2 g hg hne hs
end Go.Proofs.Ytafnamchckehmaa.Pu
namespace Go.Proofs.Ytafnamchckehmaa.Pu
open Go.RowKit Go.Proofs.YtafnamchckehmaaW.PrintWords Go.Proofs.YtafnamchckehmaaW.PrintLast Go.Proofs.YtafnamchckehmaaW.PrintMore Go.Proofs.Ytafnamchckehmaa.Pr
def dropOV (n : Int) (l : List Int) (o : Int) : Int × List Int × Bool := if obsB n l o = true then (n, cast (keptR (l.map Int.toNat) o.toNat l.length), true) else (0, [], false)
theorem dropOV_length (n : Int) (l : List Int) (o : Int) : (dropOV n l o).2.1.length ≤ l.length := by
  unfold dropOV
  split
  · show (cast _).length ≤ _
    rw [cast_length]
    exact keptR_length _ _ _
  · exact Nat.zero_le _
theorem dropOI_val (n : Int) (l : List Int) (_hl : l.length ≤ 1048576) (o : Int) : Ev (fun k => impl_DropObjects.f k n l o) (dropOV n l o) := by
  unfold impl_DropObjects.f dropOV
  rw [obsI_val]
  simp only [Option.bind_some]
  cases h : obsB n l o with
  | false => exact Ev.congr (fun k => by rw [if_neg (by decide), if_neg (by decide)]) (Ev.now _)
  | true =>
    obtain ⟨hc, m, R, o', rfl, hm, rfl, hR, hb, rfl, ho⟩ := obs_nat h
    have hrow := fun i => lt_256 (show m ≤ 8 by omega) (row_lt hb i)
    rw [if_pos rfl, uncast, Int.toNat_natCast, cast_length]
    refine Ev.congr (fun k => by rw [if_pos rfl]) ?_
    refine Ev.bind (withI_val m (by omega) R hR hrow o' 0 (lt_256 hR ho) (by decide)) ?_
    rw [diff_zero, elN_full (by omega), List.length_range, leftR_full (by omega) hb]
    exact Ev.now _
theorem dropOS_loop {m : Nat} {R : List Nat} (hR : R.length ≤ 8) {o : Nat} (ho : o < 256) : Ev (fun k => spec_DropObjects.l0 k (o : Int) 0 (m : Int) (cast R) (m : Int) []) ((m : Int), cast (keptR R o R.length), true) := by
  refine ev_fold (g := fun k (a : List Int) i => spec_DropObjects.l0 k (o : Int) i (m : Int) (cast R) (m : Int) a) (fun i _ => cast (keptR R o (i + 1))) (fun i a => a = cast (keptR R o i)) (N := R.length) ?_ (fun i a hi h => rfl) R.length 0 [] (by omega) rfl ?_
  · intro i a hi ha h
    have hl := keptR_length R o i
    have hal : a.length ≤ 8 := by rw [ha, cast_length]; omega
    rw [keptR_succ] at h
    refine Ev.step (fun k => ?_) h
    simp only [spec_DropObjects.l0]
    rw [if_pos (by rw [cast_length]; omega), l2Has_val o i (by omega) (by omega), Option.bind_some, wrap_succ hi (by omega)]
    by_cases h1 : o.testBit i = true
    · rw [if_pos h1, if_pos h1, ← ha]
    · rw [if_neg h1, if_neg h1, if_pos (by omega), if_pos (by omega), cast_append, ← ha, rd_row]
      rfl
  · intro b _ hb'
    refine Ev.step (f := fun _ => some ((m : Int), b, true)) (fun k => ?_) ?_
    · simp only [spec_DropObjects.l0]
      rw [if_neg (by rw [cast_length]; omega)]
    · rw [hb']; exact Ev.now _
theorem dropOS_val (n : Int) (l : List Int) (hl : l.length ≤ 1048576) (o : Int) : Ev (fun k => spec_DropObjects.f k n l o) (dropOV n l o) := by
  unfold spec_DropObjects.f dropOV
  refine Ev.bind (ctxS_val n l (by omega)) ?_
  cases hc : ctxB n l with
  | false =>
    rw [show obsB n l o = false from by unfold obsB; rw [hc]; rfl, if_neg (by decide)]
    refine Ev.congr (fun k => by rw [if_neg (by decide)]) ?_
    refine Ev.step (f := fun _ => some (0, [], false)) (fun k => ?_) (Ev.now _)
    simp only [spec_DropObjects.j0]
    rw [if_true]
  | true =>
    refine Ev.congr (fun k => by rw [if_pos rfl, specSet_val, Option.bind_some, show isSetB (l.length : Int) o = obsB n l o from by unfold obsB; rw [hc, Bool.true_and]]) ?_
    cases h : obsB n l o with
    | false =>
      rw [if_neg (by decide)]
      refine Ev.step (f := fun _ => some (0, [], false)) (fun k => ?_) (Ev.now _)
      simp only [spec_DropObjects.j0, Bool.not_false]
      rw [if_true]
    | true =>
      obtain ⟨_, m, R, o', rfl, hm, rfl, hR, hb, rfl, ho⟩ := obs_nat h
      rw [if_pos rfl, uncast, Int.toNat_natCast, cast_length]
      refine Ev.step (fun k => ?_) (dropOS_loop hR (lt_256 hR ho))
      simp only [spec_DropObjects.j0, Bool.not_true]
      rw [if_neg (by decide)]
end Go.Proofs.Ytafnamchckehmaa.Pu
