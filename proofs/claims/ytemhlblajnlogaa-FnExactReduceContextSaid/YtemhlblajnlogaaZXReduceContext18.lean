/- What the law needs of the program's functions as plain functions, of the proofs that their calls answer so, and of plain laws: gathered by a program of this place (pack.py) out of its printed texts. No condition beyond what each statement says. -/
import Derived.Test.YtemhlblajnlogaaZXReduceContext11
import Derived.Test.YtemhlblajnlogaaZXReduceContext14
import Derived.Test.YtemhlblajnlogaaZXReduceContext7
import Derived.Test.YtemhlblajnlogaaZXReduceContext8
import Derived.Test.YtemhlblajnlogaaZXReduceContext17
import Derived.Test.YtemhlblajnlogaaZXReduceContext9
import Derived.Test.YtemhlblajnlogaaZXReduceContext2
import Derived.Test.YtemhlblajnlogaaZXReduceContext4
import Derived.Test.YtemhlblajnlogaaZXReduceContext3
import Derived.Test.YtemhlblajnlogaaZXReduceContext13
namespace Go.Proofs.Ytemhlblajnlogaa.Pu
open Go.RowKit Go.Proofs.YtemhlblajnlogaaW.PrintWords Go.Proofs.YtemhlblajnlogaaW.PrintLast Go.Proofs.YtemhlblajnlogaaW.PrintMore Go.Proofs.Ytemhlblajnlogaa.Pr
theorem mem_cast {R : List Nat} {x : Nat} : ((x : Int) ∈ cast R) ↔ x ∈ R := by
  unfold cast
  rw [List.mem_map]
  constructor
  · rintro ⟨y, hy, e⟩
    have : y = x := by omega
    subst this
    exact hy
  · intro h; exact ⟨x, h, rfl⟩
theorem index_loop (l : List Int) (hl : l.length ≤ 9223372036854775807) (x : Int) : ∀ (rest : List Int) (i : Nat), l.drop i = rest → ∃ r : Int, Ev (fun k => slices_Index_int.l0 k l x (l.length : Int) (i : Int)) r ∧ (0 ≤ r ↔ x ∈ rest) := by
  intro rest
  induction rest with
  | nil =>
    intro i h
    have := drop_nil h
    refine ⟨-1, Ev.step (f := fun _ => some (-1)) (fun k => ?_) (Ev.now _), by simp⟩
    simp only [slices_Index_int.l0]
    rw [if_neg (by omega)]
  | cons y rest ih =>
    intro i h
    obtain ⟨hi, hx, hd⟩ := drop_cons (d := 0) h
    by_cases e : x = y
    · refine ⟨(i : Int), Ev.step (f := fun _ => some (i : Int)) (fun k => ?_) (Ev.now _), by rw [e]; simp⟩
      simp only [slices_Index_int.l0]
      rw [if_pos (by omega), if_pos (by omega), if_pos (by omega), rd_nat, hx, if_pos e]
    · obtain ⟨r, h1, h2⟩ := ih (i + 1) hd
      refine ⟨r, Ev.step (fun k => ?_) h1, by rw [h2, List.mem_cons]; simp [e]⟩
      simp only [slices_Index_int.l0]
      rw [if_pos (by omega), if_pos (by omega), if_pos (by omega), rd_nat, hx, if_neg e, wrap_succ hi hl]
theorem containsI_val (l : List Int) (hl : l.length ≤ 9223372036854775807) (x : Int) : Ev (fun k => slices_Contains_int.f k l x) (decide (x ∈ l)) := by
  unfold slices_Contains_int.f slices_Index_int.f
  obtain ⟨r, h1, h2⟩ := index_loop l hl x l 0 rfl
  refine Ev.bind h1 ?_
  rw [decide_eq_decide.2 h2.symm]
  exact Ev.now _
theorem l2In_loop (l : List Int) (hl : l.length ≤ 9223372036854775807) (x : Int) : ∀ (rest : List Int) (i : Nat), l.drop i = rest → Ev (fun k => spec_l2In.l0 k l x (i : Int)) (decide (x ∈ rest)) := by
  intro rest
  induction rest with
  | nil =>
    intro i h
    have := drop_nil h
    refine Ev.step (f := fun _ => some false) (fun k => ?_) ?_
    · simp only [spec_l2In.l0]
      rw [if_neg (by omega)]
    · rw [decide_eq_false (by simp)]; exact Ev.now _
  | cons y rest ih =>
    intro i h
    obtain ⟨hi, hx, hd⟩ := drop_cons (d := 0) h
    by_cases e : y = x
    · refine Ev.step (f := fun _ => some true) (fun k => ?_) ?_
      · simp only [spec_l2In.l0]
        rw [if_pos (by omega), if_pos (by omega), rd_nat, hx, if_pos e]
      · rw [decide_eq_true (by rw [e]; simp)]; exact Ev.now _
    · refine Ev.step (f := fun k => spec_l2In.l0 k l x ((i + 1 : Nat) : Int)) (fun k => ?_) ?_
      · simp only [spec_l2In.l0]
        rw [if_pos (by omega), if_pos (by omega), rd_nat, hx, if_neg e, wrap_succ hi hl]
      · rw [show decide (x ∈ y :: rest) = decide (x ∈ rest) from decide_eq_decide.2 (by rw [List.mem_cons]; exact ⟨fun h => h.resolve_left fun h => e h.symm, Or.inr⟩)]
        exact ih (i + 1) hd
theorem l2In_val (l : List Int) (hl : l.length ≤ 9223372036854775807) (x : Int) : Ev (fun k => spec_l2In.f k l x) (decide (x ∈ l)) := l2In_loop l hl x l 0 rfl
/-- the places of a list that repeat an earlier one -/
def repV (L : List Nat) : Nat := ofBits (fun i => decide (row L i ∈ L.take i)) L.length
theorem cast_take (L : List Nat) (i : Nat) : (cast L).take i = cast (L.take i) := by unfold cast; rw [List.map_take]
theorem repI_val (L : List Nat) (hL : L.length ≤ 8) : Ev (fun k => impl_repeated.f k (cast L)) ((repV L : Nat) : Int) := by
  unfold impl_repeated.f
  refine ev_fold (g := fun k (a : Nat) i => impl_repeated.l0 k (cast L) (a : Int) (cast L) ((cast L).length : Int) i) (bitStep fun i => decide (row L i ∈ L.take i)) (fun _ a => a < 2 ^ L.length) (N := L.length) ?_ (fun i a hi h => bitStep_lt hi h) L.length 0 0 (by omega) (Nat.two_pow_pos _) ?_
  · intro i a hi ha h
    have ha' := lt_256 hL ha
    refine Ev.step (f := fun k => (slices_Contains_int.f k (cast (L.take i)) ((row L i : Nat) : Int)).bind fun t => if t = true then impl_repeated.l0 k (cast L) ((a ||| 2 ^ i : Nat) : Int) (cast L) ((cast L).length : Int) ((i + 1 : Nat) : Int) else impl_repeated.l0 k (cast L) (a : Int) (cast L) ((cast L).length : Int) ((i + 1 : Nat) : Int)) (fun k => ?_) ?_
    · simp only [impl_repeated.l0]
      rw [if_pos (by rw [cast_length]; omega), if_pos (by omega), if_pos (by rw [cast_length]; omega), if_pos (by rw [cast_length]; omega), Int.toNat_natCast, cast_take, rd_row, or_bit ha' (by omega), wrap_succ hi (by omega)]
    · refine Ev.bind (containsI_val _ (by rw [cast_length, List.length_take]; omega) _) ?_
      rw [show decide (((row L i : Nat) : Int) ∈ cast (L.take i)) = decide (row L i ∈ L.take i) from decide_eq_decide.2 mem_cast]
      unfold bitStep at h
      by_cases h1 : decide (row L i ∈ L.take i) = true
      · rw [if_pos h1] at h
        exact Ev.congr (fun k => by rw [if_pos h1]) h
      · rw [if_neg h1] at h
        exact Ev.congr (fun k => by rw [if_neg h1]) h
  · intro b hb _
    refine Ev.step (f := fun _ => some (b : Int)) (fun k => ?_) ?_
    · simp only [impl_repeated.l0]
      rw [if_neg (by rw [cast_length]; omega)]
    · rw [hb, fold_bits]; exact Ev.now _
/-- the rows before place i, each once -/
def ddR (R : List Nat) : Nat → List Nat
  | 0 => []
  | i + 1 => if row R i ∈ ddR R i then ddR R i else ddR R i ++ [row R i]
theorem take_succ_row {R : List Nat} {i : Nat} (h : i < R.length) : R.take (i + 1) = R.take i ++ [row R i] := by
  rw [List.take_succ_eq_append_getElem h]
  unfold row
  rw [List.getD_eq_getElem?_getD, List.getElem?_eq_getElem h]
  rfl
theorem mem_ddR (R : List Nat) : ∀ i, i ≤ R.length → ∀ x, x ∈ ddR R i ↔ x ∈ R.take i
  | 0, _, x => by simp [ddR]
  | i + 1, h, x => by
    rw [take_succ_row (by omega), List.mem_append, ← mem_ddR R i (by omega), ddR]
    by_cases hc : row R i ∈ ddR R i
    · rw [if_pos hc, List.mem_singleton]
      exact ⟨Or.inl, fun h => h.elim id fun h => by rw [h]; exact hc⟩
    · rw [if_neg hc, List.mem_append]
theorem kept_dd (R : List Nat) : ∀ i, i ≤ R.length → keptR R (repV R) i = ddR R i
  | 0, _ => rfl
  | i + 1, h => by
    rw [keptR_succ, kept_dd R i (by omega), ddR]
    have hb : (repV R).testBit i = decide (row R i ∈ R.take i) := by
      unfold repV
      rw [testBit_ofBits, decide_eq_true (show i < R.length by omega), Bool.true_and]
    by_cases hc : row R i ∈ ddR R i
    · rw [if_pos hc, if_pos (by rw [hb, decide_eq_true_iff]; exact (mem_ddR R i (by omega) _).1 hc)]
    · rw [if_neg hc, if_neg (by rw [hb, decide_eq_true_iff]; exact fun h' => hc ((mem_ddR R i (by omega) _).2 h'))]
theorem ddR_length (R : List Nat) : ∀ i, (ddR R i).length ≤ i
  | 0 => Nat.le_refl _
  | i + 1 => by
    have := ddR_length R i
    rw [ddR]
    split
    · omega
    · rw [List.length_append, List.length_singleton]; omega
theorem ddR_lt {R : List Nat} {q : Nat} (hb : ∀ r ∈ R, r < 2 ^ q) : ∀ i, ∀ r ∈ ddR R i, r < 2 ^ q
  | 0, r, h => by cases h
  | i + 1, r, h => by
    rw [ddR] at h
    split at h
    · exact ddR_lt hb i r h
    · rcases List.mem_append.1 h with h | h
      · exact ddR_lt hb i r h
      · rw [List.mem_singleton.1 h]; exact row_lt hb i
/-- the attributes whose column an earlier one has -/
def sameV (m : Nat) (D : List Nat) : Nat := ofBits (fun j => decide (∃ i, i < j ∧ col D i = col D j)) m
theorem sameV_lt (m : Nat) (D : List Nat) : sameV m D < 2 ^ m := ofBits_lt _ _
theorem rep_cols (m : Nat) (D : List Nat) : repV (cols m D) = sameV m D := by
  unfold repV sameV
  rw [cols_length]
  refine ofBits_congr fun j hj => ?_
  rw [decide_eq_decide, row_cols D hj]
  unfold cols
  rw [← List.map_take, List.take_range, Nat.min_eq_left (by omega), List.mem_map]
  constructor
  · rintro ⟨i, hi, e⟩
    exact ⟨i, List.mem_range.1 hi, e⟩
  · rintro ⟨i, hi, e⟩
    exact ⟨i, List.mem_range.2 hi, e⟩
def clarV (n : Int) (l : List Int) : Int × List Int × Bool := if ctxB n l = true then dropAV n (cast (ddR (l.map Int.toNat) l.length)) ((sameV n.toNat (ddR (l.map Int.toNat) l.length) : Nat) : Int) else (0, [], false)
theorem dropA_nat {m : Nat} (hm : m ≤ 6) {D : List Nat} (hD : D.length ≤ 8) (hb : ∀ r ∈ D, r < 2 ^ m) {a : Nat} (ha : a < 2 ^ m) : dropAV (m : Int) (cast D) (a : Int) = ((((elN (diff (full m) a)).length : Nat) : Int), cast (leftR D 0 (diff (full m) a) D.length), true) := by
  unfold dropAV
  rw [show atsB (m : Int) (cast D) (a : Int) = true from by unfold atsB; rw [ctxB_mk hm hD hb, isSetB_mk (by omega) ha]; rfl, if_pos rfl, uncast, Int.toNat_natCast, Int.toNat_natCast, cast_length]
theorem clarI_val (n : Int) (l : List Int) (_hl : l.length ≤ 1048576) : Ev (fun k => impl_Clarify.f k n l) (clarV n l) := by
  unfold impl_Clarify.f clarV
  rw [ctxI_val]
  simp only [Option.bind_some]
  cases hc : ctxB n l with
  | false => exact Ev.congr (fun k => by rw [if_neg (by decide), if_neg (by decide)]) (Ev.now _)
  | true =>
    obtain ⟨m, R, rfl, hm, rfl, hR, hb⟩ := ctxB_nat hc
    have hrow := fun i => lt_256 (show m ≤ 8 by omega) (row_lt hb i)
    have hrep : repV R < 256 := lt_256 hR (ofBits_lt _ _)
    have hD := Nat.le_trans (ddR_length R R.length) hR
    have hDb := ddR_lt hb R.length
    rw [if_pos rfl, uncast, Int.toNat_natCast, cast_length, dropA_nat hm hD hDb (sameV_lt m _)]
    refine Ev.congr (fun k => by rw [if_pos rfl]) ?_
    refine Ev.bind (repI_val R hR) ?_
    refine Ev.bind (withI_val m (by omega) R hR hrow _ 0 hrep (by decide)) ?_
    rw [diff_zero, elN_full (by omega), List.length_range, leftR_full (by omega) hb, kept_dd R _ (Nat.le_refl _)]
    refine Ev.bind (colsI_val (ctxB_mk hm hD hDb) rfl rfl hm hD hDb) ?_
    refine Ev.bind (repI_val (cols m (ddR R R.length)) (by rw [cols_length]; omega)) ?_
    rw [rep_cols]
    refine Ev.bind (withI_val m (by omega) _ hD (fun i => lt_256 (by omega) (row_lt hDb i)) 0 _ (by decide) (lt_256 (by omega) (sameV_lt m _))) ?_
    exact Ev.now _
theorem clarS_l2 {m : Nat} (hm : m ≤ 6) {D : List Nat} (hD : D.length ≤ 8) (hrow : ∀ i, row D i < 256) {j : Nat} (hj : j < m) {g : Nat} (hg : g < 2 ^ j) {res : Int × List Int × Bool}
    (h : Ev (fun k => spec_Clarify.l1 k ((bitStep (fun j => decide (∃ i, i < j ∧ col D i = col D j)) j g : Nat) : Int) ((j + 1 : Nat) : Int) (m : Int) (cast D)) res) : Ev (fun k => spec_Clarify.l2 k (g : Int) (j : Int) 0 (m : Int) (cast D)) res := by
  have hg' : g < 256 := lt_256 (show j ≤ 8 by omega) hg
  have h7 : 2 ^ j ≤ 2 ^ 7 := Nat.pow_le_pow_right (by decide) (by omega)
  refine ev_fold (g := fun k (a : Nat) i => spec_Clarify.l2 k (a : Int) (j : Int) i (m : Int) (cast D)) (fun i a => if col D i = col D j then a ||| 2 ^ j else a) (fun i a => a = if ∃ q, q < i ∧ col D q = col D j then g ||| 2 ^ j else g) (N := j) ?_ ?_ j 0 g (by omega) (by rw [if_neg (by rintro ⟨q, hq, _⟩; omega)]) ?_
  · intro i a hi ha h
    have ha' : a < 256 := by
      rw [ha]
      split
      · exact Nat.or_lt_two_pow (n := 8) hg' (by omega)
      · exact hg'
    refine Ev.step (f := fun k => (spec_l3Column.f k (m : Int) (cast D) (i : Int)).bind fun t => (spec_l3Column.f k (m : Int) (cast D) (j : Int)).bind fun u => if t = u then spec_Clarify.l2 k ((a ||| 2 ^ j : Nat) : Int) (j : Int) ((i + 1 : Nat) : Int) (m : Int) (cast D) else spec_Clarify.l2 k (a : Int) (j : Int) ((i + 1 : Nat) : Int) (m : Int) (cast D)) (fun k => ?_) ?_
    · simp only [spec_Clarify.l2]
      rw [if_pos (by omega), wrapU_small _ (by omega) (by omega), or_bit ha' (by omega), wrap_succ hi (by omega)]
      simp only [if_pos (show (0 : Int) ≤ (j : Int) by omega)]
    · refine Ev.bind (colS_val D hD hrow _ i (by omega)) ?_
      refine Ev.bind (colS_val D hD hrow _ j (by omega)) ?_
      by_cases h1 : col D i = col D j
      · rw [if_pos h1] at h
        exact Ev.congr (fun k => by rw [if_pos (by rw [h1])]) h
      · rw [if_neg h1] at h
        exact Ev.congr (fun k => by rw [if_neg (by omega)]) h
  · intro i a hi ha
    rw [ha]
    by_cases h1 : col D i = col D j
    · rw [if_pos h1, if_pos (show ∃ q, q < i + 1 ∧ col D q = col D j from ⟨i, by omega, h1⟩)]
      split
      · rw [Nat.or_assoc, Nat.or_self]
      · rfl
    · rw [if_neg h1]
      by_cases h2 : ∃ q, q < i ∧ col D q = col D j
      · obtain ⟨q, hq, e⟩ := h2
        rw [if_pos ⟨q, hq, e⟩, if_pos ⟨q, by omega, e⟩]
      · rw [if_neg h2, if_neg]
        rintro ⟨q, hq, e⟩
        by_cases hqi : q = i
        · subst hqi; exact h1 e
        · exact h2 ⟨q, by omega, e⟩
  · intro b _ hb
    refine Ev.step (fun k => ?_) h
    simp only [spec_Clarify.l2]
    rw [if_neg (by omega), wrap_succ hj (by omega), hb]
    unfold bitStep
    dsimp only
    by_cases h2 : ∃ q, q < j ∧ col D q = col D j
    · rw [if_pos h2, if_pos (decide_eq_true h2)]
    · rw [if_neg h2, if_neg (by rw [decide_eq_true_iff]; exact h2)]
theorem clarS_l1 {m : Nat} (hm : m ≤ 6) {D : List Nat} (hD : D.length ≤ 8) (hb : ∀ r ∈ D, r < 2 ^ m) : Ev (fun k => spec_Clarify.l1 k 0 0 (m : Int) (cast D)) (dropAV (m : Int) (cast D) ((sameV m D : Nat) : Int)) := by
  have hrow := fun i => lt_256 (show m ≤ 8 by omega) (row_lt hb i)
  refine ev_fold (g := fun k (a : Nat) i => spec_Clarify.l1 k (a : Int) i (m : Int) (cast D)) (bitStep fun j => decide (∃ i, i < j ∧ col D i = col D j)) (fun i a => a < 2 ^ i) (N := m) ?_ (fun i a hi h => bitStep_lt (Nat.lt_succ_self i) (Nat.lt_of_lt_of_le h (Nat.pow_le_pow_right (by decide) (Nat.le_succ i)))) m 0 0 (by omega) (by decide) ?_
  · intro j g hj hg h
    refine Ev.step (fun k => ?_) (clarS_l2 hm hD hrow hj hg h)
    simp only [spec_Clarify.l1]
    rw [if_pos (by omega)]
  · intro b hb' hlt
    refine Ev.step (f := fun k => (spec_DropAttributes.f k (m : Int) (cast D) (b : Int)).bind fun bt => some (bt.1, bt.2.1, bt.2.2)) (fun k => ?_) ?_
    · simp only [spec_Clarify.l1]
      rw [if_neg (by omega)]
    · rw [show sameV m D = b from by rw [hb', fold_bits]; rfl]
      exact Ev.bind (dropAS_val (m : Int) (cast D) (by rw [cast_length]; omega) (b : Int)) (Ev.now _)
theorem clarS_val (n : Int) (l : List Int) (hl : l.length ≤ 1048576) : Ev (fun k => spec_Clarify.f k n l) (clarV n l) := by
  unfold spec_Clarify.f clarV
  refine Ev.bind (ctxS_val n l (by omega)) ?_
  cases hc : ctxB n l with
  | false => exact Ev.congr (fun k => by rw [if_neg (by decide), if_neg (by decide)]) (Ev.now _)
  | true =>
    obtain ⟨m, R, rfl, hm, rfl, hR, hb⟩ := ctxB_nat hc
    rw [if_pos rfl, uncast, Int.toNat_natCast, cast_length]
    refine Ev.congr (fun k => by rw [if_pos rfl]) ?_
    refine ev_fold (g := fun k (a : List Int) i => spec_Clarify.l0 k i (m : Int) (cast R) (m : Int) a) (fun i _ => cast (ddR R (i + 1))) (fun i a => a = cast (ddR R i)) (N := R.length) ?_ (fun i a hi h => rfl) R.length 0 [] (by omega) rfl ?_
    · intro i a hi ha h
      have hdl := ddR_length R i
      have hal : a.length ≤ 8 := by rw [ha, cast_length]; omega
      refine Ev.step (f := fun k => (spec_l2In.f k a ((row R i : Nat) : Int)).bind fun t => if t = true then spec_Clarify.l0 k ((i + 1 : Nat) : Int) (m : Int) (cast R) (m : Int) a else spec_Clarify.l0 k ((i + 1 : Nat) : Int) (m : Int) (cast R) (m : Int) (a ++ [((row R i : Nat) : Int)])) (fun k => ?_) ?_
      · simp only [spec_Clarify.l0]
        rw [if_pos (by rw [cast_length]; omega), if_pos (by omega), rd_row, wrap_succ hi (by omega)]
        simp only [if_pos (show a.length < 17592186044416 by omega)]
      · refine Ev.bind (l2In_val a (by omega) _) ?_
        rw [ha, show decide (((row R i : Nat) : Int) ∈ cast (ddR R i)) = decide (row R i ∈ ddR R i) from decide_eq_decide.2 mem_cast]
        rw [ddR] at h
        by_cases h1 : row R i ∈ ddR R i
        · rw [if_pos h1] at h
          exact Ev.congr (fun k => by rw [if_pos (decide_eq_true h1)]) h
        · rw [if_neg h1, cast_append] at h
          exact Ev.congr (fun k => by rw [if_neg (by rw [decide_eq_true_iff]; exact h1)]; rfl) h
    · intro b _ hb'
      refine Ev.step (f := fun k => spec_Clarify.l1 k 0 0 (m : Int) b) (fun k => ?_) ?_
      · simp only [spec_Clarify.l0]
        rw [if_neg (by rw [cast_length]; omega)]
      · rw [hb']
        exact clarS_l1 hm (Nat.le_trans (ddR_length R R.length) hR) (ddR_lt hb R.length)
end Go.Proofs.Ytemhlblajnlogaa.Pu
namespace Go.Proofs.Ytemhlblajnlogaa.Pu
open Go.RowKit Go.Proofs.YtemhlblajnlogaaW.PrintWords Go.Proofs.YtemhlblajnlogaaW.PrintLast Go.Proofs.YtemhlblajnlogaaW.PrintMore Go.Proofs.Ytemhlblajnlogaa.Pr
/-- a context without some attributes -/
def dropN (m : Nat) (D : List Nat) (a : Nat) : Nat × List Nat := ((elN (diff (full m) a)).length, leftR D 0 (diff (full m) a) D.length)
def okC (C : Nat × List Nat) : Prop := C.1 ≤ 6 ∧ C.2.length ≤ 8 ∧ ∀ r ∈ C.2, r < 2 ^ C.1
theorem elN_6 : ∀ a : Fin 64, (elN a.val).length ≤ 6 := by decide +kernel
theorem leftR_lt (R : List Nat) (o c i : Nat) : ∀ r ∈ leftR R o c i, r < 2 ^ (elN c).length := by
  intro r hr
  unfold leftR at hr
  obtain ⟨j, _, rfl⟩ := List.mem_map.1 hr
  exact pack_lt _ _
theorem diff_64 {m a : Nat} (hm : m ≤ 6) : diff (full m) a < 64 := by
  refine Nat.lt_of_le_of_lt (diff_le _ _) (Nat.lt_of_lt_of_le (full_lt m) ?_)
  exact show 2 ^ m ≤ 2 ^ 6 from Nat.pow_le_pow_right (by decide) hm
theorem dropN_ok {m : Nat} (hm : m ≤ 6) {D : List Nat} (hD : D.length ≤ 8) (a : Nat) : okC (dropN m D a) :=
  ⟨elN_6 ⟨_, diff_64 hm⟩, Nat.le_trans (leftR_length _ _ _ _) hD, leftR_lt _ _ _ _⟩
def clarN (m : Nat) (R : List Nat) : Nat × List Nat := dropN m (ddR R R.length) (sameV m (ddR R R.length))
theorem clarN_ok {m : Nat} (hm : m ≤ 6) {R : List Nat} (hR : R.length ≤ 8) : okC (clarN m R) := dropN_ok hm (Nat.le_trans (ddR_length R R.length) hR) _
theorem clarV_nat {m : Nat} (hm : m ≤ 6) {R : List Nat} (hR : R.length ≤ 8) (hb : ∀ r ∈ R, r < 2 ^ m) : clarV (m : Int) (cast R) = (((clarN m R).1 : Int), cast (clarN m R).2, true) := by
  unfold clarV
  rw [ctxB_mk hm hR hb, if_pos rfl, uncast, Int.toNat_natCast, cast_length, dropA_nat hm (Nat.le_trans (ddR_length R R.length) hR) (ddR_lt hb R.length) (sameV_lt m _)]
  rfl
theorem keptR_lt {R : List Nat} {q : Nat} (hb : ∀ r ∈ R, r < 2 ^ q) (o i : Nat) : ∀ r ∈ keptR R o i, r < 2 ^ q := by
  intro r hr
  unfold keptR at hr
  obtain ⟨j, _, rfl⟩ := List.mem_map.1 hr
  exact row_lt hb j
def redO (C : Nat × List Nat) : Nat := ofBits (fun g => redObjV (C.1 : Int) (cast C.2) (g : Int)) C.2.length
def redA (C : Nat × List Nat) : Nat := ofBits (fun j => redAttrV (C.1 : Int) (cast C.2) (j : Int)) C.1
def keepO (C : Nat × List Nat) : Nat × List Nat := (C.1, keptR C.2 (redO C) C.2.length)
theorem keepO_ok {C : Nat × List Nat} (h : okC C) : okC (keepO C) := ⟨h.1, Nat.le_trans (keptR_length _ _ _) h.2.1, keptR_lt h.2.2 _ _⟩
def redN (m : Nat) (R : List Nat) : Nat × List Nat := dropN (keepO (clarN m R)).1 (keepO (clarN m R)).2 (redA (keepO (clarN m R)))
def redV (n : Int) (l : List Int) : Int × List Int × Bool := if ctxB n l = true then (((redN n.toNat (l.map Int.toNat)).1 : Int), cast (redN n.toNat (l.map Int.toNat)).2, true) else (0, [], false)
theorem redV_length (n : Int) (l : List Int) : (redV n l).2.1.length ≤ l.length := by
  unfold redV
  split
  · show (cast _).length ≤ _
    rw [cast_length]
    refine Nat.le_trans (leftR_length _ _ _ _) (Nat.le_trans (keptR_length _ _ _) (Nat.le_trans (leftR_length _ _ _ _) (Nat.le_trans (ddR_length _ _) ?_)))
    rw [List.length_map]
    exact Nat.le_refl _
  · exact Nat.zero_le _
end Go.Proofs.Ytemhlblajnlogaa.Pu
namespace Go.Proofs.Ytemhlblajnlogaa.Pu
open Go.RowKit Go.Proofs.YtemhlblajnlogaaW.PrintWords Go.Proofs.YtemhlblajnlogaaW.PrintLast Go.Proofs.YtemhlblajnlogaaW.PrintMore Go.Proofs.Ytemhlblajnlogaa.Pr
def dropOV (n : Int) (l : List Int) (o : Int) : Int × List Int × Bool := if obsB n l o = true then (n, cast (keptR (l.map Int.toNat) o.toNat l.length), true) else (0, [], false)
theorem dropOS_loop {m : Nat} {R : List Nat} (hR : R.length ≤ 8) {o : Nat} (ho : o < 256) : Ev (fun k => spec_DropObjects.l0 k (o : Int) 0 (m : Int) (cast R) (m : Int) []) ((m : Int), cast (keptR R o R.length), true) := by
  refine ev_fold (g := fun k (a : List Int) i => spec_DropObjects.l0 k (o : Int) i (m : Int) (cast R) (m : Int) a) (fun i _ => cast (keptR R o (i + 1))) (fun i a => a = cast (keptR R o i)) (N := R.length) ?_ (fun i a hi h => rfl) R.length 0 [] (by omega) rfl ?_
  · intro i a hi ha h
    have hl := keptR_length R o i
    have hal : a.length ≤ 8 := by rw [ha, cast_length]; omega
    rw [keptR_succ] at h
    refine Ev.step (fun k => ?_) h
    simp only [spec_DropObjects.l0]
    rw [if_pos (by rw [cast_length]; omega), l2Has_val o i (by omega) (by omega), Option.bind_some, wrap_succ hi (by omega)]
    by_cases h1 : o.testBit i = true
    · rw [if_pos h1, if_pos h1, ← ha]
    · rw [if_neg h1, if_neg h1, if_pos (by omega), if_pos (by omega), cast_append, ← ha, rd_row]
      rfl
  · intro b _ hb'
    refine Ev.step (f := fun _ => some ((m : Int), b, true)) (fun k => ?_) ?_
    · simp only [spec_DropObjects.l0]
      rw [if_neg (by rw [cast_length]; omega)]
    · rw [hb']; exact Ev.now _
theorem dropOS_val (n : Int) (l : List Int) (hl : l.length ≤ 1048576) (o : Int) : Ev (fun k => spec_DropObjects.f k n l o) (dropOV n l o) := by
  unfold spec_DropObjects.f dropOV
  refine Ev.bind (ctxS_val n l (by omega)) ?_
  cases hc : ctxB n l with
  | false =>
    rw [show obsB n l o = false from by unfold obsB; rw [hc]; rfl, if_neg (by decide)]
    refine Ev.congr (fun k => by rw [if_neg (by decide)]) ?_
    refine Ev.step (f := fun _ => some (0, [], false)) (fun k => ?_) (Ev.now _)
    simp only [spec_DropObjects.j0]
    rw [if_true]
  | true =>
    refine Ev.congr (fun k => by rw [if_pos rfl, specSet_val, Option.bind_some, show isSetB (l.length : Int) o = obsB n l o from by unfold obsB; rw [hc, Bool.true_and]]) ?_
    cases h : obsB n l o with
    | false =>
      rw [if_neg (by decide)]
      refine Ev.step (f := fun _ => some (0, [], false)) (fun k => ?_) (Ev.now _)
      simp only [spec_DropObjects.j0, Bool.not_false]
      rw [if_true]
    | true =>
      obtain ⟨_, m, R, o', rfl, hm, rfl, hR, hb, rfl, ho⟩ := obs_nat h
      rw [if_pos rfl, uncast, Int.toNat_natCast, cast_length]
      refine Ev.step (fun k => ?_) (dropOS_loop hR (lt_256 hR ho))
      simp only [spec_DropObjects.j0, Bool.not_true]
      rw [if_neg (by decide)]
end Go.Proofs.Ytemhlblajnlogaa.Pu
