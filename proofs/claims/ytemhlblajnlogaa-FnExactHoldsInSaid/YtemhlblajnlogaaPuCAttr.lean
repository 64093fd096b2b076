/- Columns, reducible and irreducible attributes, of the reference and of the program. No condition beyond the length's bound. -/
import Derived.Test.YtemhlblajnlogaaPr19
import Derived.Test.YtemhlblajnlogaaPr20
import Derived.Test.YtemhlblajnlogaaPr21
import Derived.Test.YtemhlblajnlogaaPr5
import Derived.Test.YtemhlblajnlogaaPuCObj
import Derived.Test.YtemhlblajnlogaaPuHas
namespace Go.Proofs.Ytemhlblajnlogaa.Pu
open Go.RowKit Go.Proofs.YtemhlblajnlogaaW.PrintWords Go.Proofs.YtemhlblajnlogaaW.PrintLast Go.Proofs.YtemhlblajnlogaaW.PrintMore Go.Proofs.Ytemhlblajnlogaa.Pr

theorem col_lt (R : List Nat) (m : Nat) : col R m < 2 ^ R.length := ofBits_lt _ _
theorem bit01 (a e : Nat) (ha : a < 2 ^ 63) (he : e ≤ 64) : Go.bits .and .i64 (shr .i64 (a : Int) (e : Int)) 1 = if a.testBit e = true then 1 else 0 := by
  have h := bit_val a e ha he
  cases hb : a.testBit e with
  | true => rw [hb, beq_iff_eq] at h; rw [h]; rfl
  | false =>
    rw [shr_nat a e he]
    have h1 : a / 2 ^ e < 2 ^ 63 := Nat.lt_of_le_of_lt (Nat.div_le_self _ _) ha
    have h2 := and_nat h1 (show 1 < 2 ^ 63 by decide)
    rw [show ((1 : Nat) : Int) = 1 from rfl] at h2
    rw [Nat.testBit_eq_decide_div_mod_eq, decide_eq_false_iff_not] at hb
    rw [h2, Nat.and_one_is_mod, show a / 2 ^ e % 2 = 0 from by omega]
    rfl
theorem or_shl {a e : Nat} {b : Bool} (ha : a < 256) (he : e ≤ 7) : Go.bits .or .i64 (a : Int) (shl .i64 (if b = true then 1 else 0) (e : Int)) = ((if b = true then a ||| 2 ^ e else a : Nat) : Int) := by
  cases b with
  | true => rw [if_pos rfl, if_pos rfl]; exact or_bit ha he
  | false =>
    rw [if_neg (by decide), if_neg (by decide), shl_zero e (by omega)]
    have := or_nat (a := a) (b := 0) (by omega) (by decide)
    rw [Nat.or_zero] at this
    exact this
theorem colS_val (R : List Nat) (hR : R.length ≤ 8) (hrow : ∀ i, row R i < 256) (n : Int) (m : Nat) (hm : m ≤ 8) : Ev (fun k => spec_l3Column.f k n (cast R) (m : Int)) ((col R m : Nat) : Int) := by
  unfold spec_l3Column.f
  refine ev_fold (g := fun k (a : Nat) i => spec_l3Column.l0 k (m : Int) (a : Int) i n (cast R)) (bitStep fun g => (row R g).testBit m) (fun _ a => a < 2 ^ R.length) (N := R.length) ?_ (fun i a hi h => bitStep_lt hi h) R.length 0 0 (by omega) (Nat.two_pow_pos _) ?_
  · intro i a hi ha h
    have ha' := lt_256 hR ha
    refine Ev.step (fun k => ?_) h
    simp only [spec_l3Column.l0]
    rw [if_pos (by rw [cast_length]; omega), if_pos (by omega), rd_row, l2Has_val _ _ (by have := hrow i; omega) (by omega), Option.bind_some, wrap_succ hi (by omega), wrapU_small _ (by omega) (by omega)]
    unfold bitStep
    dsimp only
    by_cases hb : (row R i).testBit m = true
    · rw [if_pos hb, if_pos (by omega), if_pos hb, or_bit ha' (by omega)]
    · rw [if_neg hb, if_neg hb]
  · intro b hb _
    refine Ev.step (f := fun _ => some (b : Int)) (fun k => ?_) ?_
    · simp only [spec_l3Column.l0]
      rw [if_neg (by rw [cast_length]; omega)]
    · rw [hb, fold_bits]; exact Ev.now _
def attrB (n : Int) (l : List Int) (m : Int) : Bool := ctxB n l && decide (0 ≤ m ∧ m < n)
theorem attrI_val (n : Int) (l : List Int) (m : Int) : impl_isAttribute.f n l m = some (attrB n l m) := by
  unfold impl_isAttribute.f attrB
  rw [ctxI_val, Option.bind_some]
  cases h : ctxB n l with
  | false => rfl
  | true =>
    obtain ⟨q, R, rfl, hq, _⟩ := ctxB_nat h
    rw [if_pos rfl, within_val, Option.bind_some, Bool.true_and, show wrap64 ((q : Int) - 1) = (q : Int) - 1 from by unfold wrap64; omega]
    refine congrArg some ?_
    rw [decide_eq_decide]
    omega
theorem attr_nat {n : Int} {l : List Int} {g : Int} (h : attrB n l g = true) : ∃ (m : Nat) (R : List Nat) (g' : Nat), n = (m : Int) ∧ m ≤ 6 ∧ l = cast R ∧ R.length ≤ 8 ∧ (∀ r ∈ R, r < 2 ^ m) ∧ g = (g' : Int) ∧ g' < m ∧ n.toNat = m ∧ l.map Int.toNat = R ∧ g.toNat = g' := by
  unfold attrB at h
  rw [Bool.and_eq_true, decide_eq_true_iff] at h
  obtain ⟨hc, h0, h1⟩ := h
  obtain ⟨m, R, rfl, hm, rfl, hR, hb⟩ := ctxB_nat hc
  exact ⟨m, R, g.toNat, rfl, hm, rfl, hR, hb, by omega, by omega, Int.toNat_natCast m, uncast R, rfl⟩
theorem colI_loop (R : List Nat) (hR : R.length ≤ 8) (hrow : ∀ i, row R i < 256) (m : Nat) (hm : m ≤ 8) : Ev (fun k => impl_ColumnOf.l0 k (m : Int) 0 (cast R) ((cast R).length : Int) 0) ((col R m : Nat) : Int) := by
  refine ev_fold (g := fun k (a : Nat) i => impl_ColumnOf.l0 k (m : Int) (a : Int) (cast R) ((cast R).length : Int) i) (bitStep fun g => (row R g).testBit m) (fun _ a => a < 2 ^ R.length) (N := R.length) ?_ (fun i a hi h => bitStep_lt hi h) R.length 0 0 (by omega) (Nat.two_pow_pos _) ?_
  · intro i a hi ha h
    have ha' := lt_256 hR ha
    refine Ev.step (fun k => ?_) h
    simp only [impl_ColumnOf.l0]
    rw [if_pos (by rw [cast_length]; omega), if_pos (by omega), if_pos (by rw [cast_length]; omega), if_pos (by omega), rd_row, bit01 _ _ (by have := hrow i; omega) (by omega), or_shl ha' (by omega), wrap_succ hi (by omega)]
    rfl
  · intro b hb _
    refine Ev.step (f := fun _ => some (b : Int)) (fun k => ?_) ?_
    · simp only [impl_ColumnOf.l0]
      rw [if_neg (by rw [cast_length]; omega)]
    · rw [hb, fold_bits]; exact Ev.now _
theorem colI_val {n : Int} {l : List Int} {m : Nat} {R : List Nat} {g : Nat} (h : ctxB n l = true) (e : n = (m : Int)) (e' : l = cast R) (hm : m ≤ 6) (hR : R.length ≤ 8) (hb : ∀ r ∈ R, r < 2 ^ m) (hg : g < m) : Ev (fun k => impl_ColumnOf.f k n l (g : Int)) ((col R g : Nat) : Int) := by
  unfold impl_ColumnOf.f
  have ha : attrB n l (g : Int) = true := by unfold attrB; rw [h, Bool.true_and, decide_eq_true_iff]; omega
  refine Ev.congr (fun k => by rw [attrI_val, ha, Option.bind_some, if_pos rfl, e']) ?_
  exact colI_loop R hR (fun i => lt_256 (show m ≤ 8 by omega) (row_lt hb i)) g (by omega)
def cols (m : Nat) (R : List Nat) : List Nat := (List.range m).map (col R)
theorem cols_length (m : Nat) (R : List Nat) : (cols m R).length = m := by unfold cols; rw [List.length_map, List.length_range]
theorem row_cols {m i : Nat} (R : List Nat) (h : i < m) : row (cols m R) i = col R i := by
  unfold row cols
  rw [List.getD_eq_getElem?_getD, List.getElem?_map, List.getElem?_range h]
  rfl
theorem cols_lt {m : Nat} {R : List Nat} : ∀ r ∈ cols m R, r < 2 ^ R.length := by
  intro r hr
  obtain ⟨i, _, rfl⟩ := List.mem_map.1 hr
  exact col_lt R i
theorem colsI_val {n : Int} {l : List Int} {m : Nat} {R : List Nat} (h : ctxB n l = true) (e : n = (m : Int)) (e' : l = cast R) (hm : m ≤ 6) (hR : R.length ≤ 8) (hb : ∀ r ∈ R, r < 2 ^ m) : Ev (fun k => impl_columns.f k n l) (cast (cols m R)) := by
  unfold impl_columns.f
  subst e
  refine ev_fold (g := fun k (a : List Int) i => impl_columns.l0 k a (m : Int) i (m : Int) l) (fun i a => a ++ [((col R i : Nat) : Int)]) (fun i a => a = cast ((List.range i).map (col R))) (N := m) ?_ ?_ m 0 [] (by omega) rfl ?_
  · intro i a hi ha h'
    have hl : a.length ≤ 8 := by rw [ha, cast_length, List.length_map, List.length_range]; omega
    refine Ev.step (f := fun k => (impl_ColumnOf.f k (m : Int) l (i : Int)).bind fun t => impl_columns.l0 k (a ++ [t]) (m : Int) ((i + 1 : Nat) : Int) (m : Int) l) (fun k => ?_) ?_
    · simp only [impl_columns.l0]
      rw [if_pos (by omega), wrap_succ hi (by omega)]
      simp only [if_pos (show a.length < 17592186044416 by omega)]
    · exact Ev.bind (colI_val h rfl e' hm hR hb hi) h'
  · intro i a hi ha
    rw [ha, List.range_succ, List.map_append]
    unfold cast
    rw [List.map_append]
    rfl
  · intro b _ hb'
    refine Ev.step (f := fun _ => some b) (fun k => ?_) ?_
    · simp only [impl_columns.l0]
      rw [if_neg (by omega)]
    · rw [hb']; exact Ev.now _
def redAttrV (n : Int) (l : List Int) (g : Int) : Bool := attrB n l g && decide (bey (cols n.toNat (l.map Int.toNat)) (col (l.map Int.toNat) g.toNat) (full l.length) = col (l.map Int.toNat) g.toNat)
theorem redAttrI_val (n : Int) (l : List Int) (_hl : l.length ≤ 1048576) (g : Int) : Ev (fun k => impl_IsReducibleAttribute.f k n l g) (redAttrV n l g) := by
  unfold impl_IsReducibleAttribute.f redAttrV
  rw [attrI_val]
  simp only [Option.bind_some]
  cases h : attrB n l g with
  | false => exact Ev.congr (fun k => by rw [if_neg (by decide), Bool.false_and]) (Ev.now _)
  | true =>
    have hc : ctxB n l = true := by unfold attrB at h; rw [Bool.and_eq_true] at h; exact h.1
    obtain ⟨m, R, g', rfl, hm, rfl, hR, hb, rfl, hg, e1, e2, e3⟩ := attr_nat h
    rw [e1, e2, e3, Bool.true_and, cast_length]
    refine Ev.congr (fun k => by rw [if_pos rfl]) ?_
    refine Ev.bind (colsI_val hc rfl rfl hm hR hb) ?_
    refine Ev.bind (colI_val hc rfl rfl hm hR hb hg) ?_
    refine Ev.congr (fun k => by rw [fullI_val, Option.bind_some, fullN (by omega)]) ?_
    refine Ev.bind (beyI_val (cols m R) (by rw [cols_length]; omega) (fun i => lt_256 hR (row_lt cols_lt i)) _ _ (lt_256 hR (col_lt R g')) (full_256 hR)) ?_
    refine Ev.bind (colI_val hc rfl rfl hm hR hb hg) ?_
    refine Ev.congr (fun k => ?_) (Ev.now _)
    refine congrArg some ?_
    rw [Bool.eq_iff_iff, beq_iff_eq, decide_eq_true_iff]
    exact Int.natCast_inj
theorem l1In_attr {n : Int} (hn : 0 ≤ n ∧ n ≤ 6) (g : Int) : spec_l1In.f g 0 (wrap64 (n - 1)) = some (decide (0 ≤ g ∧ g < n)) := by
  rw [l1In_val, show wrap64 (n - 1) = n - 1 from by unfold wrap64; omega]
  refine congrArg some ?_
  rw [decide_eq_decide]
  omega
theorem ctxB_n {n : Int} {l : List Int} (h : ctxB n l = true) : 0 ≤ n ∧ n ≤ 6 := by
  unfold ctxB at h
  rw [Bool.and_eq_true, Bool.and_eq_true, decide_eq_true_iff] at h
  exact h.1.1
theorem redAttrS_val (n : Int) (l : List Int) (hl : l.length ≤ 1048576) (g : Int) : Ev (fun k => spec_IsReducibleAttribute.f k n l g) (redAttrV n l g) := by
  unfold spec_IsReducibleAttribute.f
  refine Ev.bind (ctxS_val n l (by omega)) ?_
  cases hc : ctxB n l with
  | false =>
    unfold redAttrV attrB
    rw [hc, Bool.false_and, Bool.false_and]
    refine Ev.congr (fun k => by rw [if_neg (by decide)]) ?_
    refine Ev.step (f := fun _ => some false) (fun k => ?_) (Ev.now _)
    simp only [spec_IsReducibleAttribute.j0]
    rw [if_true]
  | true =>
    refine Ev.congr (fun k => by rw [if_pos rfl, l1In_attr (ctxB_n hc), Option.bind_some]) ?_
    rw [show decide (0 ≤ g ∧ g < n) = attrB n l g from by unfold attrB; rw [hc]; rfl]
    unfold redAttrV
    cases h : attrB n l g with
    | false =>
      rw [Bool.false_and]
      refine Ev.step (f := fun _ => some false) (fun k => ?_) (Ev.now _)
      simp only [spec_IsReducibleAttribute.j0, Bool.not_false]
      rw [if_true]
    | true =>
      obtain ⟨m, R, g', rfl, hm, rfl, hR, hb, rfl, hg, e1, e2, e3⟩ := attr_nat h
      rw [e1, e2, e3, Bool.true_and, cast_length]
      have hrow := fun i => lt_256 (show m ≤ 8 by omega) (row_lt hb i)
      have hcol := fun i => lt_256 hR (col_lt R i)
      refine Ev.step (f := fun k => (spec_l3Column.f k (m : Int) (cast R) (g' : Int)).bind fun t => spec_IsReducibleAttribute.l0 k t ((full R.length : Nat) : Int) ((0 : Nat) : Int) (m : Int) (cast R)) (fun k => ?_) ?_
      · simp only [spec_IsReducibleAttribute.j0]
        rw [if_neg (by decide), fullS_val, cast_length, fullN hR]
        rfl
      · refine Ev.bind (colS_val R hR hrow _ g' (by omega)) ?_
        refine ev_fold (g := fun k (a : Nat) i => spec_IsReducibleAttribute.l0 k ((col R g' : Nat) : Int) (a : Int) i (m : Int) (cast R)) (byStep (cols m R) (col R g')) (fun _ a => a < 256) (N := m) ?_ (fun i a _ h => Nat.lt_of_le_of_lt (byStep_le _ _ i a) h) m 0 (full R.length) (by omega) (full_256 hR) ?_
        · intro i a hi ha h
          refine Ev.step (f := fun k => (spec_l3Column.f k (m : Int) (cast R) (i : Int)).bind fun t => if t = ((col R g' : Nat) : Int) then spec_IsReducibleAttribute.l0 k ((col R g' : Nat) : Int) (a : Int) ((i + 1 : Nat) : Int) (m : Int) (cast R) else if Go.bits .and .i64 t ((col R g' : Nat) : Int) = ((col R g' : Nat) : Int) then spec_IsReducibleAttribute.l0 k ((col R g' : Nat) : Int) (Go.bits .and .i64 (a : Int) t) ((i + 1 : Nat) : Int) (m : Int) (cast R) else spec_IsReducibleAttribute.l0 k ((col R g' : Nat) : Int) (a : Int) ((i + 1 : Nat) : Int) (m : Int) (cast R)) (fun k => ?_) ?_
          · simp only [spec_IsReducibleAttribute.l0]
            rw [if_pos (by omega), wrap_succ hi (by omega)]
          · refine Ev.bind (colS_val R hR hrow _ i (by omega)) ?_
            unfold byStep at h
            rw [row_cols R hi] at h
            by_cases h1 : col R i = col R g'
            · rw [if_neg (fun h => h.1 h1)] at h
              exact Ev.congr (fun k => by rw [if_pos (by rw [h1])]) h
            · by_cases h2 : sub (col R g') (col R i) = true
              · rw [if_pos ⟨h1, h2⟩] at h
                exact Ev.congr (fun k => by rw [if_neg (by omega), if_pos ((and_is (hcol g') (hcol i)).2 h2), and_nat (by omega) (by have := hcol i; omega)]) h
              · rw [if_neg (fun h => h2 h.2)] at h
                exact Ev.congr (fun k => by rw [if_neg (by omega), if_neg (fun h => h2 ((and_is (hcol g') (hcol i)).1 h))]) h
        · intro b hb' _
          refine Ev.step (f := fun _ => some (decide (bey (cols m R) (col R g') (full R.length) = col R g'))) (fun k => ?_) (Ev.now _)
          simp only [spec_IsReducibleAttribute.l0]
          rw [if_neg (by omega), hb']
          refine congrArg some ?_
          rw [Bool.eq_iff_iff, beq_iff_eq, decide_eq_true_iff]
          unfold bey
          rw [cols_length]
          exact Int.natCast_inj
def irrAttrV (n : Int) (l : List Int) (g : Int) : Bool := attrB n l g && !redAttrV n l g
theorem irrAttrI_val (n : Int) (l : List Int) (hl : l.length ≤ 1048576) (g : Int) : Ev (fun k => impl_IsIrreducibleAttribute.f k n l g) (irrAttrV n l g) := by
  unfold impl_IsIrreducibleAttribute.f irrAttrV
  rw [attrI_val]
  simp only [Option.bind_some]
  cases attrB n l g with
  | false => exact Ev.congr (fun k => by rw [if_neg (by decide), Bool.false_and]) (Ev.now _)
  | true =>
    refine Ev.congr (fun k => by rw [if_pos rfl]) ?_
    exact Ev.bind (redAttrI_val n l hl g) (Ev.now _)
theorem irrAttrS_val (n : Int) (l : List Int) (hl : l.length ≤ 1048576) (g : Int) : Ev (fun k => spec_IsIrreducibleAttribute.f k n l g) (irrAttrV n l g) := by
  unfold spec_IsIrreducibleAttribute.f irrAttrV
  refine Ev.bind (ctxS_val n l (by omega)) ?_
  cases hc : ctxB n l with
  | false =>
    rw [show attrB n l g = false from by unfold attrB; rw [hc]; rfl]
    exact Ev.congr (fun k => by rw [if_neg (by decide), Bool.false_and]) (Ev.now _)
  | true =>
    refine Ev.congr (fun k => by rw [if_pos rfl, l1In_attr (ctxB_n hc), Option.bind_some]) ?_
    rw [show decide (0 ≤ g ∧ g < n) = attrB n l g from by unfold attrB; rw [hc]; rfl]
    cases attrB n l g with
    | false => exact Ev.congr (fun k => by rw [if_neg (by decide), Bool.false_and]) (Ev.now _)
    | true =>
      refine Ev.congr (fun k => by rw [if_pos rfl]) ?_
      exact Ev.bind (redAttrS_val n l hl g) (Ev.now _)
end Go.Proofs.Ytemhlblajnlogaa.Pu
