/- Functions of the program as plain functions, proofs that their calls answer so, and plain laws: what the law needs. No condition beyond what each statement says. -/
import Derived.Test.YtafnamchckehmaaGreatDoorZFnStem12
namespace Go.Proofs.YtafnamchckehmaaGreatDoor.Pu
open Go.RowKit Go.Proofs.YtafnamchckehmaaGreatDoorW.PrintWords Go.Proofs.YtafnamchckehmaaGreatDoorW.PrintLast Go.Proofs.YtafnamchckehmaaGreatDoorW.PrintMore Go.Proofs.YtafnamchckehmaaGreatDoor.Pr
def allN (m : Nat) : List Nat := lecR (List.range (2 ^ m))
theorem range_lt {m : Nat} (hm : m ≤ 8) : ∀ x ∈ List.range (2 ^ m), x < 256 := fun x hx => by
  have := pow_256 hm
  rw [List.mem_range] at hx
  omega
theorem mem_allN {m : Nat} (hm : m ≤ 8) {x : Nat} : x ∈ allN m ↔ x < 2 ^ m := by
  unfold allN
  rw [mem_lecR (range_lt hm), List.mem_range]
theorem allN_length {m : Nat} (hm : m ≤ 8) : (allN m).length = 2 ^ m := by
  unfold allN
  rw [lecR_length (range_lt hm) List.nodup_range, List.length_range]
theorem allN_row {m : Nat} (hm : m ≤ 8) {i : Nat} (hi : i < (allN m).length) : row (allN m) i < 2 ^ m := by
  unfold row
  rw [List.getD_eq_getElem?_getD, List.getElem?_eq_getElem hi]
  exact (mem_allN hm).1 (List.getElem_mem _)
theorem all_val {m : Nat} (hm : m ≤ 8) : Ev (fun k => impl_allSets.f k (m : Int)) (cast (allN m)) := by
  have hp := pow_256 hm
  have h1 := Nat.two_pow_pos m
  have hs : impl_SortLectic.f (cast (List.range (2 ^ m))) = some (cast (allN m)) := by
    unfold impl_SortLectic.f
    rw [if_pos ⟨cast_any (range_lt hm), cast_nodup List.nodup_range, by rw [cast_length, List.length_range]; exact h1⟩]
    have e : (cast (List.range (2 ^ m))).map Int.toNat = List.range (2 ^ m) := by
      unfold cast
      rw [List.map_map]
      exact List.map_id _
    rw [e]
    rfl
  unfold impl_allSets.f
  rw [shl_one m hm]
  refine Ev.congr (fun k => by rw [if_pos (by omega)]) ?_
  refine ev_fold (g := fun k (a : List Nat) i => impl_allSets.l0 k (cast a) ((2 ^ m : Nat) : Int) i) (rangeStep fun _ => true) (fun i a => a.length ≤ i) (N := 2 ^ m) ?_ (fun i a _ h => rangeStep_len _ i a h) (2 ^ m) 0 [] (by omega) (Nat.le_refl _) ?_
  · intro i a hi ha h
    refine Ev.step (fun k => ?_) h
    simp only [impl_allSets.l0]
    rw [if_pos (by omega), if_pos (by rw [cast_length]; omega), castOne, show wrap64 ((i : Int) + 1) = ((i + 1 : Nat) : Int) from by unfold wrap64; omega]
    rfl
  · intro b hb _
    rw [range_all, List.filter_eq_self.2 (fun _ _ => rfl)] at hb
    subst hb
    refine Ev.step (f := fun _ => some (cast (allN m))) (fun k => ?_) (Ev.now _)
    simp only [impl_allSets.l0]
    rw [if_neg (by omega), hs]
    rfl
def keptN (m : Nat) (q : Nat → Bool) : List Nat := lecR ((List.range (2 ^ m)).filter q)
theorem keptN_eq (m : Nat) (q : Nat → Bool) : (allN m).filter q = keptN m q := lecR_filter q
theorem filt_lt {m : Nat} (hm : m ≤ 8) (q : Nat → Bool) : ∀ x ∈ (List.range (2 ^ m)).filter q, x < 256 := fun x hx => range_lt hm x ((List.mem_filter.1 hx).1)
theorem mem_keptN {m : Nat} (hm : m ≤ 8) {q : Nat → Bool} {x : Nat} : x ∈ keptN m q ↔ x < 2 ^ m ∧ q x = true := by
  unfold keptN
  rw [mem_lecR (filt_lt hm q), List.mem_filter, List.mem_range]
theorem keptN_length {m : Nat} (hm : m ≤ 8) (q : Nat → Bool) : (keptN m q).length = ((List.range (2 ^ m)).filter q).length := lecR_length (filt_lt hm q) (List.nodup_range.filter _)
theorem keptN_le {m : Nat} {q : Nat → Bool} : (keptN m q).length ≤ 256 := lecR_len
def ctxB (n : Int) (l : List Int) : Bool := decide (0 ≤ n ∧ n ≤ 6) && decide ((l.length : Int) ≤ 8) && l.all (isSetB n)
theorem ctxI_val (n : Int) (l : List Int) : impl_IsContext.f n l = some (ctxB n l) := rfl
theorem ctxS_loop (n : Int) (l : List Int) (hl : l.length ≤ 9223372036854775807) : ∀ (rest : List Int) (i : Nat), l.drop i = rest → Ev (fun k => spec_IsContext.l0 k (i : Int) n l) (decide (0 ≤ n ∧ n ≤ 6) && decide ((l.length : Int) ≤ 8) && rest.all (isSetB n)) := by
  intro rest
  induction rest with
  | nil =>
    intro i h
    have := drop_nil h
    refine Ev.step (f := fun _ => some (decide (0 ≤ n ∧ n ≤ 6) && decide ((l.length : Int) ≤ 8))) (fun k => ?_) ?_
    · simp only [spec_IsContext.l0]
      rw [if_neg (by omega), l1In_val, Option.bind_some]
      by_cases h6 : 0 ≤ n ∧ n ≤ 6
      · rw [decide_eq_true h6]; rfl
      · rw [decide_eq_false h6]; rfl
    · rw [List.all_nil, Bool.and_true]; exact Ev.now _
  | cons x rest ih =>
    intro i h
    obtain ⟨hi, hx, hd⟩ := drop_cons (d := 0) h
    cases hq : isSetB n x with
    | true =>
      refine Ev.step (f := fun k => spec_IsContext.l0 k ((i + 1 : Nat) : Int) n l) (fun k => ?_) ?_
      · simp only [spec_IsContext.l0]
        rw [if_pos (by omega), if_pos (by omega), rd_nat, hx, specSet_val, Option.bind_some, hq, if_pos rfl, wrap_succ hi hl]
      · rw [List.all_cons, hq, Bool.true_and]; exact ih (i + 1) hd
    | false =>
      refine Ev.step (f := fun _ => some false) (fun k => ?_) ?_
      · simp only [spec_IsContext.l0]
        rw [if_pos (by omega), if_pos (by omega), rd_nat, hx, specSet_val, Option.bind_some, hq, if_neg (by decide)]
      · rw [List.all_cons, hq, Bool.false_and, Bool.and_false]; exact Ev.now _
theorem ctxS_val (n : Int) (l : List Int) (hl : l.length ≤ 9223372036854775807) : Ev (fun k => spec_IsContext.f k n l) (ctxB n l) := ctxS_loop n l hl l 0 rfl
theorem ctxB_nat {n : Int} {l : List Int} (h : ctxB n l = true) : ∃ (m : Nat) (R : List Nat), n = (m : Int) ∧ m ≤ 6 ∧ l = cast R ∧ R.length ≤ 8 ∧ ∀ r ∈ R, r < 2 ^ m := by
  unfold ctxB at h
  rw [Bool.and_eq_true, Bool.and_eq_true, decide_eq_true_iff, decide_eq_true_iff, List.all_eq_true] at h
  obtain ⟨⟨h1, h2⟩, h3⟩ := h
  have hx : ∀ x ∈ l, 0 ≤ x ∧ x.toNat < 2 ^ n.toNat := by
    intro x hx
    obtain ⟨m, a, hm, e1, ha, e2⟩ := isSetB_nat (h3 x hx)
    subst e2
    refine ⟨by omega, ?_⟩
    rw [e1, Int.toNat_natCast, Int.toNat_natCast]
    exact ha
  refine ⟨n.toNat, l.map Int.toNat, by omega, by omega, cast_of fun x h => (hx x h).1, by rw [List.length_map]; omega, fun r hr => ?_⟩
  obtain ⟨x, hx', rfl⟩ := List.mem_map.1 hr
  exact (hx x hx').2
def atsB (n : Int) (l : List Int) (a : Int) : Bool := ctxB n l && isSetB n a
theorem atsI_val (n : Int) (l : List Int) (a : Int) : impl_areAttributes.f n l a = some (atsB n l a) := by
  unfold impl_areAttributes.f atsB
  rw [ctxI_val, Option.bind_some]
  cases ctxB n l with
  | false => rfl
  | true => rw [if_pos rfl, set_val, Option.bind_some, Bool.true_and]
def obsB (n : Int) (l : List Int) (o : Int) : Bool := ctxB n l && isSetB (l.length : Int) o
theorem obsI_val (n : Int) (l : List Int) (o : Int) : impl_areObjects.f n l o = some (obsB n l o) := by
  unfold impl_areObjects.f obsB
  rw [ctxI_val, Option.bind_some]
  cases ctxB n l with
  | false => rfl
  | true => rw [if_pos rfl, set_val, Option.bind_some, Bool.true_and]
theorem ats_nat {n : Int} {l : List Int} {a : Int} (h : atsB n l a = true) : ctxB n l = true ∧ ∃ (m : Nat) (R : List Nat) (a' : Nat), n = (m : Int) ∧ m ≤ 6 ∧ l = cast R ∧ R.length ≤ 8 ∧ (∀ r ∈ R, r < 2 ^ m) ∧ a = (a' : Int) ∧ a' < 2 ^ m := by
  unfold atsB at h
  rw [Bool.and_eq_true] at h
  obtain ⟨hc, hs⟩ := h
  obtain ⟨m, R, rfl, hm, rfl, hR, hb⟩ := ctxB_nat hc
  obtain ⟨m', a', _, e, ha, rfl⟩ := isSetB_nat hs
  obtain rfl : m = m' := by omega
  exact ⟨hc, m, R, a', rfl, hm, rfl, hR, hb, rfl, ha⟩
def elN (s : Nat) : List Nat := (List.range 8).filter fun (e : Nat) => s.testBit e
set_option maxRecDepth 100000 in
theorem countI_all : ∀ a : Fin 256, impl_CountOf.f ((a.val : Nat) : Int) = some (((elN a.val).length : Nat) : Int) := by decide +kernel
theorem countI_val {a : Nat} (ha : a < 256) : impl_CountOf.f (a : Int) = some (((elN a).length : Nat) : Int) := countI_all ⟨a, ha⟩
theorem col_lt (R : List Nat) (m : Nat) : col R m < 2 ^ R.length := ofBits_lt _ _
def attrB (n : Int) (l : List Int) (m : Int) : Bool := ctxB n l && decide (0 ≤ m ∧ m < n)
theorem attrI_val (n : Int) (l : List Int) (m : Int) : impl_isAttribute.f n l m = some (attrB n l m) := by
  unfold impl_isAttribute.f attrB
  rw [ctxI_val, Option.bind_some]
  cases h : ctxB n l with
  | false => rfl
  | true =>
    obtain ⟨q, R, rfl, hq, _⟩ := ctxB_nat h
    rw [if_pos rfl, within_val, Option.bind_some, Bool.true_and, show wrap64 ((q : Int) - 1) = (q : Int) - 1 from by unfold wrap64; omega]
    refine congrArg some ?_
    rw [decide_eq_decide]
    omega
theorem colI_loop (R : List Nat) (hR : R.length ≤ 8) (hrow : ∀ i, row R i < 256) (m : Nat) (hm : m ≤ 8) : Ev (fun k => impl_ColumnOf.l0 k (m : Int) 0 (cast R) ((cast R).length : Int) 0) ((col R m : Nat) : Int) := by
  refine ev_fold (g := fun k (a : Nat) i => impl_ColumnOf.l0 k (m : Int) (a : Int) (cast R) ((cast R).length : Int) i) (bitStep fun g => (row R g).testBit m) (fun _ a => a < 2 ^ R.length) (N := R.length) ?_ (fun i a hi h => bitStep_lt hi h) R.length 0 0 (by omega) (Nat.two_pow_pos _) ?_
  · intro i a hi ha h
    have ha' := lt_256 hR ha
    refine Ev.step (fun k => ?_) h
    simp only [impl_ColumnOf.l0]
    rw [if_pos (by rw [cast_length]; omega), if_pos (by omega), if_pos (by rw [cast_length]; omega), if_pos (by omega), rd_row, bit01 _ _ (by have := hrow i; omega) (by omega), or_shl ha' (by omega), wrap_succ hi (by omega)]
    rfl
  · intro b hb _
    refine Ev.step (f := fun _ => some (b : Int)) (fun k => ?_) ?_
    · simp only [impl_ColumnOf.l0]
      rw [if_neg (by rw [cast_length]; omega)]
    · rw [hb, fold_bits]; exact Ev.now _
theorem colI_val {n : Int} {l : List Int} {m : Nat} {R : List Nat} {g : Nat} (h : ctxB n l = true) (e : n = (m : Int)) (e' : l = cast R) (hm : m ≤ 6) (hR : R.length ≤ 8) (hb : ∀ r ∈ R, r < 2 ^ m) (hg : g < m) : Ev (fun k => impl_ColumnOf.f k n l (g : Int)) ((col R g : Nat) : Int) := by
  unfold impl_ColumnOf.f
  have ha : attrB n l (g : Int) = true := by unfold attrB; rw [h, Bool.true_and, decide_eq_true_iff]; omega
  refine Ev.congr (fun k => by rw [attrI_val, ha, Option.bind_some, if_pos rfl, e']) ?_
  exact colI_loop R hR (fun i => lt_256 (show m ≤ 8 by omega) (row_lt hb i)) g (by omega)
def cols (m : Nat) (R : List Nat) : List Nat := (List.range m).map (col R)
theorem cols_length (m : Nat) (R : List Nat) : (cols m R).length = m := by unfold cols; rw [List.length_map, List.length_range]
theorem row_cols {m i : Nat} (R : List Nat) (h : i < m) : row (cols m R) i = col R i := by
  unfold row cols
  rw [List.getD_eq_getElem?_getD, List.getElem?_map, List.getElem?_range h]
  rfl
theorem cols_lt {m : Nat} {R : List Nat} : ∀ r ∈ cols m R, r < 2 ^ R.length := by
  intro r hr
  obtain ⟨i, _, rfl⟩ := List.mem_map.1 hr
  exact col_lt R i
theorem colsI_val {n : Int} {l : List Int} {m : Nat} {R : List Nat} (h : ctxB n l = true) (e : n = (m : Int)) (e' : l = cast R) (hm : m ≤ 6) (hR : R.length ≤ 8) (hb : ∀ r ∈ R, r < 2 ^ m) : Ev (fun k => impl_columns.f k n l) (cast (cols m R)) := by
  unfold impl_columns.f
  subst e
  refine ev_fold (g := fun k (a : List Int) i => impl_columns.l0 k a (m : Int) i (m : Int) l) (fun i a => a ++ [((col R i : Nat) : Int)]) (fun i a => a = cast ((List.range i).map (col R))) (N := m) ?_ ?_ m 0 [] (by omega) rfl ?_
  · intro i a hi ha h'
    have hl : a.length ≤ 8 := by rw [ha, cast_length, List.length_map, List.length_range]; omega
    refine Ev.step (f := fun k => (impl_ColumnOf.f k (m : Int) l (i : Int)).bind fun t => impl_columns.l0 k (a ++ [t]) (m : Int) ((i + 1 : Nat) : Int) (m : Int) l) (fun k => ?_) ?_
    · simp only [impl_columns.l0]
      rw [if_pos (by omega), wrap_succ hi (by omega)]
      simp only [if_pos (show a.length < 17592186044416 by omega)]
    · exact Ev.bind (colI_val h rfl e' hm hR hb hi) h'
  · intro i a hi ha
    rw [ha, List.range_succ, List.map_append]
    unfold cast
    rw [List.map_append]
    rfl
  · intro b _ hb'
    refine Ev.step (f := fun _ => some b) (fun k => ?_) ?_
    · simp only [impl_columns.l0]
      rw [if_neg (by omega)]
    · rw [hb']; exact Ev.now _
def comStep (L : List Nat) (c i f : Nat) : Nat := if c.testBit i = true then f &&& row L i else f
def com (L : List Nat) (c f : Nat) : Nat := foldIdx (comStep L c) 0 L.length f
theorem comStep_le (L : List Nat) (c i f : Nat) : comStep L c i f ≤ f := by
  unfold comStep
  split
  · exact Nat.and_le_left
  · exact Nat.le_refl _
theorem testBit_fold_com (L : List Nat) (c j : Nat) : ∀ (d i f : Nat), i + d = L.length → ((foldIdx (comStep L c) i L.length f).testBit j = true ↔ f.testBit j = true ∧ ∀ g, i ≤ g → g < L.length → c.testBit g = true → (row L g).testBit j = true) := by
  intro d
  induction d with
  | zero =>
    intro i f h
    rw [foldIdx_end _ (by omega)]
    exact ⟨fun h => ⟨h, fun g h1 h2 => by omega⟩, fun h => h.1⟩
  | succ d ih =>
    intro i f h
    have hi : i < L.length := by omega
    rw [foldIdx_step _ hi f, ih (i + 1) _ (by omega)]
    unfold comStep
    by_cases hc : c.testBit i = true
    · rw [if_pos hc, Nat.testBit_and, Bool.and_eq_true]
      constructor
      · rintro ⟨⟨h1, h2⟩, h3⟩
        refine ⟨h1, fun g hg hg' hcg => ?_⟩
        by_cases e : g = i
        · subst e; exact h2
        · exact h3 g (by omega) hg' hcg
      · rintro ⟨h1, h2⟩
        exact ⟨⟨h1, h2 i (Nat.le_refl _) hi hc⟩, fun g hg hg' hcg => h2 g (by omega) hg' hcg⟩
    · rw [if_neg hc]
      constructor
      · rintro ⟨h1, h3⟩
        refine ⟨h1, fun g hg hg' hcg => ?_⟩
        by_cases e : g = i
        · subst e; exact absurd hcg hc
        · exact h3 g (by omega) hg' hcg
      · rintro ⟨h1, h2⟩
        exact ⟨h1, fun g hg hg' hcg => h2 g (by omega) hg' hcg⟩
theorem testBit_com (L : List Nat) (c f j : Nat) : (com L c f).testBit j = true ↔ f.testBit j = true ∧ ∀ g, g < L.length → c.testBit g = true → (row L g).testBit j = true := by
  unfold com
  rw [testBit_fold_com L c j L.length 0 f (by omega)]
  exact ⟨fun h => ⟨h.1, fun g h1 => h.2 g (Nat.zero_le _) h1⟩, fun h => ⟨h.1, fun g _ h1 => h.2 g h1⟩⟩
theorem testBit_col (R : List Nat) (m g : Nat) : (col R m).testBit g = (decide (g < R.length) && (row R g).testBit m) := testBit_ofBits ..
theorem ext_com {m : Nat} {R : List Nat} {a : Nat} (ha : a < 2 ^ m) : com (cols m R) a (full R.length) = ext R a := by
  apply Nat.eq_of_testBit_eq
  intro g
  rw [Bool.eq_iff_iff, testBit_com, testBit_ext, testBit_full, Bool.and_eq_true, decide_eq_true_iff, sub_iff, cols_length]
  refine and_congr_right fun hg => ⟨fun h i hi => ?_, fun h i hi hai => ?_⟩
  · have him : i < m := by
      rcases Nat.lt_or_ge i m with h' | h'
      · exact h'
      · rw [lt_two_pow_iff.1 ha i h'] at hi; cases hi
    have := h i him hi
    rw [row_cols R him, testBit_col, Bool.and_eq_true] at this
    exact this.2
  · rw [row_cols R hi, testBit_col, h i hai, decide_eq_true hg]
    rfl
theorem int_com (m : Nat) (R : List Nat) (o : Nat) : com R o (full m) = int m R o := by
  apply Nat.eq_of_testBit_eq
  intro i
  rw [Bool.eq_iff_iff, testBit_com, testBit_int, testBit_full, decide_eq_true_iff]
theorem ext_lt (R : List Nat) (a : Nat) : ext R a < 2 ^ R.length := ofBits_lt _ _
theorem comI_val (L : List Nat) (hl : L.length ≤ 8) (hL : ∀ i, row L i < 256) (c f : Nat) (hc : c < 256) (hf : f < 256) : Ev (fun k => impl_common.f k (cast L) (c : Int) (f : Int)) ((com L c f : Nat) : Int) := by
  unfold impl_common.f
  refine ev_fold (g := fun k (a : Nat) i => impl_common.l0 k (c : Int) (a : Int) (cast L) ((cast L).length : Int) i) (comStep L c) (fun _ a => a < 256) (N := L.length) ?_ (fun i a _ h => Nat.lt_of_le_of_lt (comStep_le L c i a) h) L.length 0 f (by omega) hf ?_
  · intro i a hi ha h
    refine Ev.step (fun k => ?_) h
    simp only [impl_common.l0]
    rw [if_pos (by rw [cast_length]; omega), if_pos (by omega), if_pos (by rw [cast_length]; omega), rd_row, wrap_succ hi (by omega), hasI_val, Option.bind_some]
    have hv : hasV (c : Int) (i : Int) = c.testBit i := by
      unfold hasV isAny
      rw [decide_eq_true (by omega), decide_eq_true (by omega)]
      simp
    rw [hv]
    unfold comStep
    by_cases h1 : c.testBit i = true
    · rw [if_pos h1, if_pos h1, and_nat (by omega) (by have := hL i; omega)]
    · rw [if_neg h1, if_neg h1]
  · intro b hb _
    refine Ev.step (f := fun _ => some (b : Int)) (fun k => ?_) ?_
    · simp only [impl_common.l0]
      rw [if_neg (by rw [cast_length]; omega)]
    · rw [hb]; exact Ev.now _
theorem intS_val (m : Nat) (hm : m ≤ 8) (R : List Nat) (hR : R.length ≤ 8) (hrow : ∀ i, row R i < 256) (o : Nat) (ho : o < 256) : Ev (fun k => spec_l4Intent.f k (m : Int) (cast R) (o : Int)) ((int m R o : Nat) : Int) := by
  unfold spec_l4Intent.f
  refine Ev.congr (fun k => by rw [fullS_val, Option.bind_some, fullN hm]) ?_
  refine ev_fold (g := fun k (a : Nat) i => spec_l4Intent.l0 k (o : Int) (a : Int) i (m : Int) (cast R)) (comStep R o) (fun _ a => a < 256) (N := R.length) ?_ (fun i a _ h => Nat.lt_of_le_of_lt (comStep_le R o i a) h) R.length 0 (full m) (by omega) (full_256 hm) ?_
  · intro i a hi ha h
    refine Ev.step (fun k => ?_) h
    simp only [spec_l4Intent.l0]
    rw [if_pos (by rw [cast_length]; omega), l2Has_val _ _ (by omega) (by omega), Option.bind_some, rd_row, wrap_succ hi (by omega)]
    unfold comStep
    by_cases h1 : o.testBit i = true
    · rw [if_pos h1, if_pos (by omega), if_pos h1, and_nat (by omega) (by have := hrow i; omega)]
    · rw [if_neg h1, if_neg h1]
  · intro b hb _
    refine Ev.step (f := fun _ => some (b : Int)) (fun k => ?_) ?_
    · simp only [spec_l4Intent.l0]
      rw [if_neg (by rw [cast_length]; omega)]
    · rw [hb, show foldIdx (comStep R o) 0 R.length (full m) = int m R o from int_com m R o]; exact Ev.now _
theorem extS_val (n : Int) (R : List Nat) (hR : R.length ≤ 8) (hrow : ∀ i, row R i < 256) (a : Nat) (ha : a < 256) : Ev (fun k => spec_l4Extent.f k n (cast R) (a : Int)) ((ext R a : Nat) : Int) := by
  unfold spec_l4Extent.f
  refine ev_fold (g := fun k (b : Nat) i => spec_l4Extent.l0 k (a : Int) (b : Int) i n (cast R)) (bitStep fun g => sub a (row R g)) (fun _ b => b < 2 ^ R.length) (N := R.length) ?_ (fun i b hi h => bitStep_lt hi h) R.length 0 0 (by omega) (Nat.two_pow_pos _) ?_
  · intro i b hi hb h
    have hb' := lt_256 hR hb
    refine Ev.step (fun k => ?_) h
    simp only [spec_l4Extent.l0]
    rw [if_pos (by rw [cast_length]; omega), if_pos (by omega), rd_row, wrap_succ hi (by omega), wrapU_small _ (by omega) (by omega)]
    unfold bitStep
    dsimp only
    by_cases h1 : sub a (row R i) = true
    · rw [if_pos ((and_is ha (hrow i)).2 h1), if_pos (by omega), if_pos h1, or_bit hb' (by omega)]
    · rw [if_neg (fun h => h1 ((and_is ha (hrow i)).1 h)), if_neg h1]
  · intro b hb _
    refine Ev.step (f := fun _ => some (b : Int)) (fun k => ?_) ?_
    · simp only [spec_l4Extent.l0]
      rw [if_neg (by rw [cast_length]; omega)]
    · rw [hb, fold_bits]; exact Ev.now _
theorem clS4_val (m : Nat) (hm : m ≤ 8) (R : List Nat) (hR : R.length ≤ 8) (hrow : ∀ i, row R i < 256) (a : Nat) (ha : a < 256) : Ev (fun k => spec_l4Closure.f k (m : Int) (cast R) (a : Int)) ((cl m R a : Nat) : Int) := by
  unfold spec_l4Closure.f
  refine Ev.bind (extS_val _ R hR hrow a ha) ?_
  exact Ev.bind (intS_val m hm R hR hrow _ (lt_256 hR (ext_lt R a))) (Ev.now _)
theorem clI4_val {m : Nat} (hm : m ≤ 6) {R : List Nat} (hR : R.length ≤ 8) (hb : ∀ r ∈ R, r < 2 ^ m) {a : Nat} (ha : a < 2 ^ m) (hc : ctxB (m : Int) (cast R) = true) : Ev (fun k => impl_ClosureOf.f k (m : Int) (cast R) (a : Int)) ((cl m R a : Nat) : Int) := by
  have hat : atsB (m : Int) (cast R) (a : Int) = true := by unfold atsB; rw [hc, isSetB_mk (by omega) ha]; rfl
  have hob : obsB (m : Int) (cast R) ((ext R a : Nat) : Int) = true := by unfold obsB; rw [hc, cast_length, isSetB_mk hR (ext_lt R a)]; rfl
  have hrow := fun i => lt_256 (show m ≤ 8 by omega) (row_lt hb i)
  unfold impl_ClosureOf.f impl_ExtentOf.f impl_IntentOf.f
  rw [atsI_val, hat]
  simp only [Option.bind_some]
  refine Ev.congr (fun k => by rw [if_true, if_true]) ?_
  have h1 : Ev (fun k => (impl_columns.f k (m : Int) (cast R)).bind fun t371 => (impl_FullSet.f ((cast R).length : Int)).bind fun t374 => (impl_common.f k t371 (a : Int) t374).bind fun t375 => some t375) ((ext R a : Nat) : Int) := by
    refine Ev.bind (colsI_val hc rfl rfl hm hR hb) ?_
    refine Ev.congr (fun k => by rw [fullI_val, Option.bind_some, cast_length, fullN hR]) ?_
    refine Ev.bind (comI_val (cols m R) (by rw [cols_length]; omega) (fun i => lt_256 hR (row_lt cols_lt i)) a _ (lt_256 (show m ≤ 8 by omega) ha) (full_256 hR)) ?_
    rw [ext_com ha]
    exact Ev.now _
  refine Ev.bind h1 ?_
  refine Ev.congr (fun k => by rw [obsI_val, hob, Option.bind_some, if_pos rfl, fullI_val, Option.bind_some, fullN (by omega)]) ?_
  have h2 : Ev (fun k => (impl_common.f k (cast R) ((ext R a : Nat) : Int) ((full m : Nat) : Int)).bind fun t368 => some t368) ((cl m R a : Nat) : Int) := by
    refine Ev.bind (comI_val R hR hrow _ _ (lt_256 hR (ext_lt R a)) (full_256 (by omega))) ?_
    rw [int_com]
    exact Ev.now _
  exact Ev.bind h2 (Ev.now _)
def holdV (n : Int) (l : List Int) (a b : Int) : Bool := atsB n l a && atsB n l b && sub b.toNat (cl n.toNat (l.map Int.toNat) a.toNat)
theorem cl_256 {m : Nat} (hm : m ≤ 8) (R : List Nat) (a : Nat) : cl m R a < 256 := lt_256 hm (cl_lt m R a)
theorem holdI_val (n : Int) (l : List Int) (_hl : l.length ≤ 1048576) (a b : Int) : Ev (fun k => impl_HoldsIn.f k n l a b) (holdV n l a b) := by
  unfold impl_HoldsIn.f holdV
  rw [atsI_val]
  simp only [Option.bind_some]
  cases h : atsB n l a with
  | false => exact Ev.congr (fun k => by rw [if_neg (by decide), Bool.false_and, Bool.false_and]) (Ev.now _)
  | true =>
    refine Ev.congr (fun k => by rw [if_pos rfl, atsI_val, Option.bind_some]) ?_
    cases h' : atsB n l b with
    | false => exact Ev.congr (fun k => by rw [if_neg (by decide), Bool.true_and, Bool.false_and]) (Ev.now _)
    | true =>
      obtain ⟨hc, m, R, a', rfl, hm, rfl, hR, hb, rfl, ha⟩ := ats_nat h
      obtain ⟨_, m', _, b', e, _, _, _, _, rfl, hb'⟩ := ats_nat h'
      obtain rfl : m = m' := by omega
      rw [uncast, Int.toNat_natCast, Int.toNat_natCast, Int.toNat_natCast]
      refine Ev.congr (fun k => by rw [if_pos rfl]) ?_
      refine Ev.bind (clI4_val hm hR hb ha hc) ?_
      exact Ev.congr (fun k => by rw [inS_val (lt_256 (by omega) hb') (cl_256 (by omega) R a'), Option.bind_some]; rfl) (Ev.now _)
theorem holdS_val (n : Int) (l : List Int) (hl : l.length ≤ 1048576) (a b : Int) : Ev (fun k => spec_HoldsIn.f k n l a b) (holdV n l a b) := by
  unfold spec_HoldsIn.f holdV
  refine Ev.bind (ctxS_val n l (by omega)) ?_
  cases hc : ctxB n l with
  | false =>
    rw [show atsB n l a = false from by unfold atsB; rw [hc]; rfl]
    exact Ev.congr (fun k => by rw [if_neg (by decide), Bool.false_and, Bool.false_and]) (Ev.now _)
  | true =>
    refine Ev.congr (fun k => by rw [if_pos rfl, rule_val, Option.bind_some, show (isSetB n a && isSetB n b) = (atsB n l a && atsB n l b) from by unfold atsB; rw [hc, Bool.true_and, Bool.true_and]]) ?_
    cases h : atsB n l a && atsB n l b with
    | false => exact Ev.congr (fun k => by rw [if_neg (by decide), Bool.false_and]) (Ev.now _)
    | true =>
      rw [Bool.and_eq_true] at h
      obtain ⟨h, h'⟩ := h
      obtain ⟨_, m, R, a', rfl, hm, rfl, hR, hb, rfl, ha⟩ := ats_nat h
      obtain ⟨_, m', _, b', e, _, _, _, _, rfl, hb'⟩ := ats_nat h'
      obtain rfl : m = m' := by omega
      rw [uncast, Int.toNat_natCast, Int.toNat_natCast, Int.toNat_natCast, Bool.true_and]
      have hrow := fun i => lt_256 (show m ≤ 8 by omega) (row_lt hb i)
      refine Ev.congr (fun k => by rw [if_pos rfl]) ?_
      refine Ev.bind (clS4_val m (by omega) R hR hrow a' (lt_256 (by omega) ha)) ?_
      refine Ev.congr (fun k => ?_) (Ev.now _)
      refine congrArg some ?_
      rw [Bool.eq_iff_iff, beq_iff_eq]
      exact and_is' (lt_256 (by omega) hb') (cl_256 (by omega) R a')
theorem anyR_rest {l rest : List IR} {i : Nat} {x : IR} (h : l.drop i = x :: rest) (ha : l.all anyR = true) : anyR x = true :=
  List.all_eq_true.1 ha x (List.mem_of_mem_drop (i := i) (by rw [h]; exact List.mem_cons_self))
theorem stepI_loop (l : List IR) (hl : l.length ≤ 9223372036854775807) (ha : l.all anyR = true) (s : Nat) (hs : s < 256) : ∀ (rest : List IR) (i out : Nat), l.drop i = rest → out < 256 →
    Ev (fun k => impl_OneStep.l0 k (s : Int) (out : Int) l (l.length : Int) (i : Int)) (((toR rest).foldl (fun o r => if sub r.1 s then o ||| r.2 else o) out : Nat) : Int) := by
  intro rest
  induction rest with
  | nil =>
    intro i out h ho
    have := drop_nil h
    refine Ev.step (f := fun _ => some (out : Int)) (fun k => ?_) (Ev.now _)
    simp only [impl_OneStep.l0]
    rw [if_neg (by omega)]
  | cons x rest ih =>
    intro i out h ho
    obtain ⟨hi, hx, hr⟩ := drop_cons (d := z48) h
    obtain ⟨e1, e2, h1, h2⟩ := anyR_nat (anyR_rest h ha)
    rw [show toR (x :: rest) = toP x :: toR rest from rfl, List.foldl_cons]
    cases hc : sub (toP x).1 s with
    | true =>
      refine Ev.step (f := fun k => impl_OneStep.l0 k (s : Int) ((out ||| (toP x).2 : Nat) : Int) l (l.length : Int) ((i + 1 : Nat) : Int)) (fun k => ?_) (ih (i + 1) (out ||| (toP x).2) hr (or256 ho h2))
      simp only [impl_OneStep.l0]
      rw [if_pos (by omega), if_pos (by omega), if_pos (by omega), rdR, hx, e1, e2, inSet_val h1 hs, hc, Option.bind_some, if_pos rfl, or_nat (by omega) (by omega), wrap_succ hi hl]
    | false =>
      refine Ev.step (f := fun k => impl_OneStep.l0 k (s : Int) (out : Int) l (l.length : Int) ((i + 1 : Nat) : Int)) (fun k => ?_) (ih (i + 1) out hr ho)
      simp only [impl_OneStep.l0]
      rw [if_pos (by omega), if_pos (by omega), if_pos (by omega), rdR, hx, e1, inSet_val h1 hs, hc, Option.bind_some, if_neg (by decide), wrap_succ hi hl]
def stepV (l : List IR) (s : Int) : Int := if l.all anyR && isAny s then ((step (toR l) s.toNat : Nat) : Int) else s
theorem oneI_val (l : List IR) (hl : l.length ≤ 9223372036854775807) (s : Int) : Ev (fun k => impl_OneStep.f k l s) (stepV l s) := by
  unfold impl_OneStep.f impl_areAnyRules.f stepV
  rw [any_val]
  simp only [Option.bind_some]
  cases hs : isAny s with
  | false =>
    rw [Bool.and_false]
    refine Ev.congr (fun k => ?_) (Ev.step (f := fun _ => some s) (g := fun k => impl_OneStep.j0 k l s true) (fun k => ?_) (Ev.now s))
    · rw [if_neg (by decide)]
    · simp only [impl_OneStep.j0, if_true]
  | true =>
    obtain ⟨n, hn, rfl⟩ := isAny_nat hs
    cases ha : l.all anyR with
    | false =>
      refine Ev.congr (fun k => ?_) (Ev.step (f := fun _ => some (n : Int)) (g := fun k => impl_OneStep.j0 k l (n : Int) true) (fun k => ?_) (Ev.now _))
      · rw [if_pos rfl]; rfl
      · simp only [impl_OneStep.j0, if_true]
    | true =>
      rw [Bool.and_true, if_pos rfl, Int.toNat_natCast]
      refine Ev.congr (fun k => ?_) (Ev.step (g := fun k => impl_OneStep.j0 k l (n : Int) false) (fun k => ?_) (stepI_loop l hl ha n hn l 0 n rfl hn))
      · rw [if_pos rfl]; rfl
      · simp only [impl_OneStep.j0]; rw [if_neg (by decide)]; rfl
theorem clS_inner (l : List IR) (hl : l.length ≤ 9223372036854775807) (ha : l.all anyR = true) (res : Int) : ∀ (rest : List IR) (i s : Nat) (ch : Bool), l.drop i = rest → s < 256 →
    Ev (fun k => spec_l9Closed.l0 k l (((sweep (toR rest) (s, ch)).1 : Nat) : Int) (sweep (toR rest) (s, ch)).2) res → Ev (fun k => spec_l9Closed.l1 k l (s : Int) ch (i : Int)) res := by
  intro rest
  induction rest with
  | nil =>
    intro i s ch h hs he
    have := drop_nil h
    refine Ev.step (fun k => ?_) he
    simp only [spec_l9Closed.l1]
    rw [if_neg (by omega)]
    rfl
  | cons x rest ih =>
    intro i s ch h hs he
    obtain ⟨hi, hx, hr⟩ := drop_cons (d := z48) h
    obtain ⟨e1, e2, h1, h2⟩ := anyR_nat (anyR_rest h ha)
    rw [show sweep (toR (x :: rest)) (s, ch) = sweep (toR rest) (if sub (toP x).1 s && !sub (toP x).2 s then (s ||| (toP x).2, true) else (s, ch)) from rfl] at he
    cases hc : sub (toP x).1 s with
    | false =>
      rw [hc, Bool.false_and, if_neg (by decide)] at he
      refine Ev.step (fun k => ?_) (ih (i + 1) s ch hr hs he)
      simp only [spec_l9Closed.l1]
      rw [if_pos (by omega), if_pos (by omega), rdR, hx, e1, if_neg (by rw [and_eq_sub h1 hs, hc]; decide), wrap_succ hi hl]
    | true =>
      cases hd : sub (toP x).2 s with
      | true =>
        rw [hc, hd, if_neg (by decide)] at he
        refine Ev.step (fun k => ?_) (ih (i + 1) s ch hr hs he)
        simp only [spec_l9Closed.l1]
        rw [if_pos (by omega), if_pos (by omega), rdR, hx, e1, e2, if_pos ((and_eq_sub h1 hs).2 hc), if_pos ((and_eq_sub h2 hs).2 hd), wrap_succ hi hl]
      | false =>
        rw [hc, hd, if_pos (by decide)] at he
        refine Ev.step (fun k => ?_) (ih (i + 1) (s ||| (toP x).2) true hr (or256 hs h2) he)
        simp only [spec_l9Closed.l1]
        rw [if_pos (by omega), if_pos (by omega), rdR, hx, e1, e2, if_pos ((and_eq_sub h1 hs).2 hc), if_neg (by rw [and_eq_sub h2 hs, hd]; decide), or_nat (by omega) (by omega), wrap_succ hi hl]
theorem clS_loop (l : List IR) (hl : l.length ≤ 9223372036854775807) (ha : l.all anyR = true) : ∀ (d s : Nat), s < 256 → 256 - s ≤ d → Ev (fun k => spec_l9Closed.l0 k l (s : Int) true) ((clo (toR l) s : Nat) : Int) := by
  have hR := toR_small ha
  intro d
  induction d with
  | zero => intro s hs hd; omega
  | succ d ih =>
    intro s hs hd
    refine Ev.step (g := fun k => spec_l9Closed.l0 k l (s : Int) true) (f := fun k => spec_l9Closed.l1 k l (s : Int) false ((0 : Nat) : Int)) (fun k => by simp only [spec_l9Closed.l0, if_true]; rfl) ?_
    refine clS_inner l hl ha _ l 0 s false rfl hs ?_
    obtain ⟨a, b, c, e, f⟩ := sweep_spec (toR l) (s, false)
    have hlt := b (fun r hr => (hR r hr).2) hs
    generalize hq : sweep (toR l) (s, false) = q at *
    obtain ⟨s', ch'⟩ := q
    cases ch' with
    | false =>
      obtain ⟨_, h2, h3⟩ := e rfl
      have h2' : s' = s := h2
      subst h2'
      rw [(clo_fix hR hs).2 h3]
      exact Ev.step (f := fun _ => some (s' : Int)) (fun k => by simp only [spec_l9Closed.l0]; rw [if_neg (by decide)]) (Ev.now _)
    | true =>
      have hgt : s < s' := f rfl rfl
      have := ih s' hlt (by omega)
      rwa [clo_of_between hR hs hlt a c] at this
theorem clS_val (l : List IR) (hl : l.length ≤ 9223372036854775807) (ha : l.all anyR = true) (s : Nat) (hs : s < 256) : Ev (fun k => spec_l9Closed.f k l (s : Int)) ((clo (toR l) s : Nat) : Int) := clS_loop l hl ha _ s hs (Nat.le_refl _)
def cloV (l : List IR) (s : Int) : Int := if l.all anyR && isAny s then ((clo (toR l) s.toNat : Nat) : Int) else s
theorem closedS_val (l : List IR) (hl : l.length ≤ 9223372036854775807) (s : Int) : Ev (fun k => spec_ClosedBy.f k l s) (cloV l s) := by
  unfold spec_ClosedBy.f cloV
  rw [specSet_val, isSetB_8]
  refine Ev.bind (sets_val l hl) ?_
  cases ha : l.all anyR with
  | false => exact Ev.congr (fun k => by rw [if_neg (by decide)]; rfl) (Ev.now _)
  | true =>
    cases hs : isAny s with
    | false => exact Ev.congr (fun k => by rw [if_pos rfl, Option.bind_some, if_neg (by decide)]; rfl) (Ev.now _)
    | true =>
      obtain ⟨n, hn, rfl⟩ := isAny_nat hs
      rw [Int.toNat_natCast]
      refine Ev.congr (fun k => by rw [if_pos rfl, Option.bind_some, if_pos rfl]) ?_
      exact Ev.bind (clS_val l hl ha n hn) (Ev.now _)
theorem stepV_nat {l : List IR} (ha : l.all anyR = true) {s : Nat} (hs : s < 256) : stepV l (s : Int) = ((step (toR l) s : Nat) : Int) := by
  unfold stepV
  rw [ha, show isAny (s : Int) = true from decide_eq_true (by omega), if_pos (by decide), Int.toNat_natCast]
theorem clI_loop (l : List IR) (hl : l.length ≤ 9223372036854775807) (ha : l.all anyR = true) : ∀ (d s : Nat), s < 256 → 256 - s ≤ d → Ev (fun k => impl_ClosedBy.l0 k l (s : Int) ((step (toR l) s : Nat) : Int)) ((clo (toR l) s : Nat) : Int) := by
  have hR := toR_small ha
  intro d
  induction d with
  | zero => intro s hs hd; omega
  | succ d ih =>
    intro s hs hd
    have hlt := step_lt hR hs
    by_cases e : step (toR l) s = s
    · refine Ev.step (f := fun _ => some (s : Int)) (fun k => ?_) ?_
      · simp only [impl_ClosedBy.l0]; rw [if_pos (by rw [e])]
      · rw [(clo_fix hR hs).2 (step_fix.1 e)]; exact Ev.now _
    · have hgt : s < step (toR l) s := by have := sub_le (sub_step (toR l) s); omega
      refine Ev.step (f := fun k => (impl_OneStep.f k l ((step (toR l) s : Nat) : Int)).bind fun t => impl_ClosedBy.l0 k l ((step (toR l) s : Nat) : Int) t) (fun k => ?_) ?_
      · simp only [impl_ClosedBy.l0]; rw [if_neg (by omega)]
      · refine Ev.bind (oneI_val l hl _) ?_
        rw [stepV_nat ha hlt, ← clo_step hR hs]
        exact ih _ hlt (by omega)
theorem closedI_val (l : List IR) (hl : l.length ≤ 9223372036854775807) (s : Int) : Ev (fun k => impl_ClosedBy.f k l s) (cloV l s) := by
  unfold impl_ClosedBy.f impl_areAnyRules.f cloV
  rw [any_val]
  simp only [Option.bind_some]
  cases hs : isAny s with
  | false =>
    rw [Bool.and_false]
    refine Ev.congr (fun k => ?_) (Ev.step (f := fun _ => some s) (g := fun k => impl_ClosedBy.j0 k l s true) (fun k => ?_) (Ev.now s))
    · rw [if_neg (by decide)]
    · simp only [impl_ClosedBy.j0, if_true]
  | true =>
    obtain ⟨n, hn, rfl⟩ := isAny_nat hs
    cases ha : l.all anyR with
    | false =>
      refine Ev.congr (fun k => ?_) (Ev.step (f := fun _ => some (n : Int)) (g := fun k => impl_ClosedBy.j0 k l (n : Int) true) (fun k => ?_) (Ev.now _))
      · rw [if_pos rfl]; rfl
      · simp only [impl_ClosedBy.j0, if_true]
    | true =>
      rw [Bool.and_true, if_pos rfl, Int.toNat_natCast]
      refine Ev.congr (fun k => ?_) (Ev.step (g := fun k => impl_ClosedBy.j0 k l (n : Int) false) (f := fun k => (impl_OneStep.f k l (n : Int)).bind fun t => impl_ClosedBy.l0 k l (n : Int) t) (fun k => ?_) ?_)
      · rw [if_pos rfl]; rfl
      · simp only [impl_ClosedBy.j0]; rw [if_neg (by decide)]
      · refine Ev.bind (oneI_val l hl _) ?_
        rw [stepV_nat ha hn]
        exact clI_loop l hl ha _ n hn (Nat.le_refl _)
def folV (l : List IR) (r : IR) : Bool := l.all anyR && (anyR r && sub (toP r).2 (clo (toR l) (toP r).1))
theorem cloV_nat {l : List IR} (ha : l.all anyR = true) {s : Nat} (hs : s < 256) : cloV l (s : Int) = ((clo (toR l) s : Nat) : Int) := by
  unfold cloV
  rw [ha, show isAny (s : Int) = true from decide_eq_true (by omega), if_pos (by decide), Int.toNat_natCast]
theorem folS_val (l : List IR) (hl : l.length ≤ 9223372036854775807) (a b : Int) : Ev (fun k => spec_Follows.f k l a b) (folV l ⟨a, b⟩) := by
  unfold spec_Follows.f folV
  rw [rule_val, isSetB_8, isSetB_8, show (isAny a && isAny b) = anyR ⟨a, b⟩ from rfl]
  refine Ev.bind (sets_val l hl) ?_
  cases ha : l.all anyR with
  | false => exact Ev.congr (fun k => by rw [if_neg (by decide)]; rfl) (Ev.now _)
  | true =>
    cases hr : anyR ⟨a, b⟩ with
    | false => exact Ev.congr (fun k => by rw [if_pos rfl, Option.bind_some, if_neg (by decide)]; rfl) (Ev.now _)
    | true =>
      obtain ⟨h1, h2, h3, h4⟩ := anyR_nat hr
      have e1 : a = ((toP ⟨a, b⟩).1 : Int) := h1
      have e2 : b = ((toP ⟨a, b⟩).2 : Int) := h2
      generalize (toP ⟨a, b⟩).1 = x at *
      generalize (toP ⟨a, b⟩).2 = y at *
      subst e1 e2
      refine Ev.congr (fun k => by rw [if_pos rfl, Option.bind_some, if_pos rfl]) ?_
      refine Ev.bind (clS_val l hl ha x h3) ?_
      refine Ev.congr (fun k => congrArg some ?_) (Ev.now _)
      have hlt := (clo_spec (toR_small ha) h3).1
      rw [and_nat (by omega) (by omega), Nat.and_comm, ← and_nat (by omega) (by omega), Bool.eq_iff_iff, beq_iff_eq, and_eq_sub h4 hlt]
      simp
theorem folI_val (l : List IR) (hl : l.length ≤ 9223372036854775807) (a b : Int) : Ev (fun k => impl_Follows.f k l a b) (folV l ⟨a, b⟩) := by
  unfold impl_Follows.f impl_areAnyRules.f folV
  simp only [Option.bind_some]
  rw [show ([(⟨a, b⟩ : IR)].all anyR) = anyR ⟨a, b⟩ from by simp]
  cases ha : l.all anyR with
  | false => exact Ev.congr (fun k => by rw [if_neg (by decide)]; rfl) (Ev.now _)
  | true =>
    cases hr : anyR ⟨a, b⟩ with
    | false => exact Ev.congr (fun k => by rw [if_pos rfl, if_neg (by decide)]; rfl) (Ev.now _)
    | true =>
      obtain ⟨h1, h2, h3, h4⟩ := anyR_nat hr
      have e1 : a = ((toP ⟨a, b⟩).1 : Int) := h1
      have e2 : b = ((toP ⟨a, b⟩).2 : Int) := h2
      generalize (toP ⟨a, b⟩).1 = x at *
      generalize (toP ⟨a, b⟩).2 = y at *
      subst e1 e2
      refine Ev.congr (fun k => by rw [if_pos rfl, if_pos rfl]) ?_
      refine Ev.bind (closedI_val l hl _) ?_
      have hlt := (clo_spec (toR_small ha) h3).1
      rw [cloV_nat ha h3]
      exact Ev.congr (fun k => by rw [inSet_val h4 hlt, Option.bind_some]; rfl) (Ev.now _)
def areV (n : Int) (l : List IR) : Bool := decide (0 ≤ n ∧ n ≤ 6) && decide ((l.length : Int) ≤ 40) && l.all (ruleB n)
theorem are_loop (n : Int) (l : List IR) (hl : l.length ≤ 9223372036854775807) : ∀ (rest : List IR) (i : Nat), l.drop i = rest → Ev (fun k => spec_AreRules.l0 k n l (i : Int)) (decide (0 ≤ n ∧ n ≤ 6) && decide ((l.length : Int) ≤ 40) && rest.all (ruleB n)) := by
  intro rest
  induction rest with
  | nil =>
    intro i h
    have := drop_nil h
    refine Ev.step (f := fun _ => some (decide (0 ≤ n ∧ n ≤ 6) && decide ((l.length : Int) ≤ 40) && true)) (fun k => ?_) (Ev.now _)
    simp only [spec_AreRules.l0]
    rw [if_neg (by omega), l1In_val, Option.bind_some, Bool.and_true]
    cases decide (0 ≤ n ∧ n ≤ 6) <;> rfl
  | cons x rest ih =>
    intro i h
    obtain ⟨hi, hx, hr⟩ := drop_cons (d := z48) h
    rw [List.all_cons]
    cases e : ruleB n x with
    | true =>
      refine Ev.step (f := fun k => spec_AreRules.l0 k n l ((i + 1 : Nat) : Int)) (fun k => ?_) (ih (i + 1) hr)
      simp only [spec_AreRules.l0]
      rw [if_pos (by omega), if_pos (by omega), rdR, hx, rule_val, Option.bind_some, show (isSetB n x.f0 && isSetB n x.f1) = true from e, if_pos rfl, wrap_succ hi hl]
    | false =>
      refine Ev.step (f := fun _ => some false) (fun k => ?_) ?_
      · simp only [spec_AreRules.l0]
        rw [if_pos (by omega), if_pos (by omega), rdR, hx, rule_val, Option.bind_some, show (isSetB n x.f0 && isSetB n x.f1) = false from e, if_neg (by decide)]
      · rw [Bool.false_and, Bool.and_false]
        exact Ev.now false
theorem areS_val (n : Int) (l : List IR) (hl : l.length ≤ 9223372036854775807) : Ev (fun k => spec_AreRules.f k n l) (areV n l) := are_loop n l hl l 0 rfl
theorem areI_val (n : Int) (l : List IR) : impl_AreRules.f n l = some (areV n l) := rfl
theorem areV_nat {n : Int} {l : List IR} (h : areV n l = true) : ∃ m : Nat, n = (m : Int) ∧ m ≤ 6 ∧ l.length ≤ 40 ∧ l.all anyR = true ∧ ∀ r ∈ l, (toP r).1 < 2 ^ m ∧ (toP r).2 < 2 ^ m := by
  unfold areV at h
  rw [Bool.and_eq_true, Bool.and_eq_true, decide_eq_true_iff, decide_eq_true_iff, List.all_eq_true] at h
  obtain ⟨⟨h1, h2⟩, h3⟩ := h
  refine ⟨n.toNat, by omega, by omega, by omega, List.all_eq_true.2 fun r hr => ?_, fun r hr => ?_⟩
  · have := h3 r hr
    unfold ruleB at this
    rw [Bool.and_eq_true] at this
    unfold anyR
    rw [isSetB_any this.1, isSetB_any this.2]; rfl
  · have := h3 r hr
    unfold ruleB at this
    rw [Bool.and_eq_true] at this
    obtain ⟨m, a, hm, e1, ha, e2⟩ := isSetB_nat this.1
    obtain ⟨m', b, hm', e1', hb, e2'⟩ := isSetB_nat this.2
    unfold toP
    rw [e2, e2', e1, Int.toNat_natCast, Int.toNat_natCast, Int.toNat_natCast]
    refine ⟨ha, ?_⟩
    have : m' = m := by omega
    rw [← this]; exact hb
theorem clofS_val {m : Nat} (hm : m ≤ 6) {R : List Nat} (hR : R.length ≤ 8) (hb : ∀ r ∈ R, r < 2 ^ m) (hc : ctxB (m : Int) (cast R) = true) {a : Nat} (ha : a < 2 ^ m) : Ev (fun k => spec_ClosureOf.f k (m : Int) (cast R) (a : Int)) ((cl m R a : Nat) : Int) := by
  have hrow := fun i => lt_256 (show m ≤ 8 by omega) (row_lt hb i)
  unfold spec_ClosureOf.f
  refine Ev.bind (ctxS_val _ _ (by rw [cast_length]; omega)) ?_
  rw [hc]
  refine Ev.congr (fun k => by rw [if_pos rfl, specSet_val, isSetB_mk (by omega) ha, Option.bind_some, if_pos rfl]) ?_
  exact Ev.bind (clS4_val m (by omega) R hR hrow a (lt_256 (show m ≤ 8 by omega) ha)) (Ev.now _)
theorem extI4_val {m : Nat} (hm : m ≤ 6) {R : List Nat} (hR : R.length ≤ 8) (hb : ∀ r ∈ R, r < 2 ^ m) {a : Nat} (ha : a < 2 ^ m) (hc : ctxB (m : Int) (cast R) = true) : Ev (fun k => impl_ExtentOf.f k (m : Int) (cast R) (a : Int)) ((ext R a : Nat) : Int) := by
  have hat : atsB (m : Int) (cast R) (a : Int) = true := by unfold atsB; rw [hc, isSetB_mk (by omega) ha]; rfl
  unfold impl_ExtentOf.f
  rw [atsI_val, hat]
  simp only [Option.bind_some]
  refine Ev.congr (fun k => by rw [if_true]) ?_
  refine Ev.bind (colsI_val hc rfl rfl hm hR hb) ?_
  refine Ev.congr (fun k => by rw [fullI_val, Option.bind_some, cast_length, fullN hR]) ?_
  refine Ev.bind (comI_val (cols m R) (by rw [cols_length]; omega) (fun i => lt_256 hR (row_lt cols_lt i)) a _ (lt_256 (show m ≤ 8 by omega) ha) (full_256 hR)) ?_
  rw [ext_com ha]
  exact Ev.now _
def closedQ (m : Nat) (R : List Nat) (s : Nat) : Bool := decide (cl m R s = s)
theorem isClosed_val {m : Nat} (hm : m ≤ 6) {R : List Nat} (hR : R.length ≤ 8) (hb : ∀ r ∈ R, r < 2 ^ m) {a : Nat} (ha : a < 2 ^ m) (hc : ctxB (m : Int) (cast R) = true) : Ev (fun k => impl_IsClosed.f k (m : Int) (cast R) (a : Int)) (closedQ m R a) := by
  have hat : atsB (m : Int) (cast R) (a : Int) = true := by unfold atsB; rw [hc, isSetB_mk (by omega) ha]; rfl
  unfold impl_IsClosed.f
  rw [atsI_val, hat]
  simp only [Option.bind_some]
  refine Ev.congr (fun k => by rw [if_true]) ?_
  refine Ev.bind (clI4_val hm hR hb ha hc) ?_
  have e : (((cl m R a : Nat) : Int) == (a : Int)) = closedQ m R a := by
    unfold closedQ
    rw [Bool.eq_iff_iff, beq_iff_eq, decide_eq_true_iff]
    omega
  rw [e]
  exact Ev.now _
def conN (m : Nat) (R : List Nat) : List S102 := (keptN m (closedQ m R)).map fun s => ⟨((ext R s : Nat) : Int), ((s : Nat) : Int)⟩
theorem conN_map (R a : List Nat) (x : Nat) : (a.map fun s => (⟨((ext R s : Nat) : Int), ((s : Nat) : Int)⟩ : S102)) ++ [⟨((ext R x : Nat) : Int), ((x : Nat) : Int)⟩] = (a ++ [x]).map fun s => ⟨((ext R s : Nat) : Int), ((s : Nat) : Int)⟩ := by rw [List.map_append]; rfl
theorem con_val {m : Nat} (hm : m ≤ 6) {R : List Nat} (hR : R.length ≤ 8) (hb : ∀ r ∈ R, r < 2 ^ m) (hc : ctxB (m : Int) (cast R) = true) : Ev (fun k => impl_Concepts.f k (m : Int) (cast R)) (conN m R) := by
  unfold impl_Concepts.f
  rw [ctxI_val]
  simp only [Option.bind_some]
  refine Ev.congr (fun k => by rw [if_pos hc]) ?_
  refine Ev.bind (all_val (show m ≤ 8 by omega)) ?_
  have hp := pow_256 (show m ≤ 8 by omega)
  have hN : (allN m).length ≤ 256 := by rw [allN_length (by omega)]; exact hp
  refine ev_fold (g := fun k (a : List Nat) i => impl_Concepts.l0 k (a.map fun s => ⟨((ext R s : Nat) : Int), ((s : Nat) : Int)⟩) (cast (allN m)) ((cast (allN m)).length : Int) i (m : Int) (cast R)) (keepStep (allN m) (closedQ m R)) (fun i a => a.length ≤ i) (N := (allN m).length) ?_ (fun i a _ h => keep_len _ _ i a h) (allN m).length 0 [] (by omega) (Nat.le_refl _) ?_
  · intro i a hi hai h
    have hr := allN_row (show m ≤ 8 by omega) hi
    refine Ev.step (f := fun k => (impl_IsClosed.f k (m : Int) (cast R) ((row (allN m) i : Nat) : Int)).bind fun t => if t = true then (impl_ExtentOf.f k (m : Int) (cast R) ((row (allN m) i : Nat) : Int)).bind fun u => (if (a.map fun s => (⟨((ext R s : Nat) : Int), ((s : Nat) : Int)⟩ : S102)).length < 8796093022208 then impl_Concepts.l0 k ((a.map fun s => ⟨((ext R s : Nat) : Int), ((s : Nat) : Int)⟩) ++ [⟨u, ((row (allN m) i : Nat) : Int)⟩]) (cast (allN m)) ((cast (allN m)).length : Int) ((i + 1 : Nat) : Int) (m : Int) (cast R) else none) else impl_Concepts.l0 k (a.map fun s => ⟨((ext R s : Nat) : Int), ((s : Nat) : Int)⟩) (cast (allN m)) ((cast (allN m)).length : Int) ((i + 1 : Nat) : Int) (m : Int) (cast R)) (fun k => ?_) ?_
    · simp only [impl_Concepts.l0]
      rw [if_pos (by rw [cast_length]; omega), if_pos (by omega), if_pos (by rw [cast_length]; omega), rd_row, wrap_succ hi (by omega)]
    · refine Ev.bind (isClosed_val hm hR hb hr hc) ?_
      unfold keepStep at h
      cases e : closedQ m R (row (allN m) i) with
      | true =>
        rw [if_pos e] at h
        refine Ev.congr (fun k => by rw [if_pos rfl]) ?_
        refine Ev.bind (extI4_val hm hR hb hr hc) ?_
        refine Ev.congr (fun k => by rw [if_pos (by rw [List.length_map]; omega), conN_map]) ?_
        exact h
      | false =>
        rw [if_neg (by rw [e]; decide)] at h
        exact Ev.congr (fun k => by rw [if_neg (by decide)]) h
  · intro b hbb _
    rw [keep_all, keptN_eq] at hbb
    subst hbb
    refine Ev.step (f := fun _ => some (conN m R)) (fun k => ?_) (Ev.now _)
    simp only [impl_Concepts.l0]
    rw [if_neg (by rw [cast_length]; omega)]
    rfl
def openStep (q : Nat → Bool) (i a : Nat) : Nat := if q i = true then a else a + 1
theorem open_count (q : Nat → Bool) : ∀ N, foldIdx (openStep q) 0 N 0 + ((List.range N).filter q).length = N
  | 0 => by rw [foldIdx_end _ (Nat.le_refl _)]; rfl
  | N + 1 => by
    have ih := open_count q N
    rw [foldIdx_last _ (Nat.zero_le _), List.range_succ, List.filter_append, List.length_append]
    unfold openStep at ih ⊢
    cases h : q N with
    | true =>
      rw [if_pos rfl, List.filter_cons, h]
      simp
      omega
    | false =>
      rw [if_neg (by decide), List.filter_cons, h]
      simp
      omega
def countV (n : Int) (l : List Int) : Int := if ctxB n l = true then ((2 ^ n.toNat - (keptN n.toNat (closedQ n.toNat (l.map Int.toNat))).length : Nat) : Int) else -1
theorem countI4_val (n : Int) (l : List Int) : Ev (fun k => impl_CountRules.f k n l) (countV n l) := by
  unfold impl_CountRules.f countV
  rw [ctxI_val]
  simp only [Option.bind_some]
  cases hc : ctxB n l with
  | false => exact Ev.congr (fun k => by rw [if_neg (by decide), if_neg (by decide)]) (Ev.now _)
  | true =>
    obtain ⟨m, R, rfl, hm, rfl, hR, hb⟩ := ctxB_nat hc
    rw [Int.toNat_natCast, uncast, if_pos rfl, shl_one m (by omega)]
    refine Ev.congr (fun k => by rw [if_pos rfl, if_pos (by omega)]) ?_
    refine Ev.bind (con_val hm hR hb hc) ?_
    have h1 : (conN m R).length = (keptN m (closedQ m R)).length := by unfold conN; rw [List.length_map]
    have h2 := keptN_length (show m ≤ 8 by omega) (closedQ m R)
    have h3 := open_count (closedQ m R) (2 ^ m)
    have hp := pow_256 (show m ≤ 8 by omega)
    rw [h1, show wrap64 (((2 ^ m : Nat) : Int) - ((keptN m (closedQ m R)).length : Int)) = ((2 ^ m - (keptN m (closedQ m R)).length : Nat) : Int) from by unfold wrap64; omega]
    exact Ev.now _
theorem countS4_val (n : Int) (l : List Int) (hl : l.length ≤ 1048576) : Ev (fun k => spec_CountRules.f k n l) (countV n l) := by
  unfold spec_CountRules.f countV
  refine Ev.bind (ctxS_val n l (by omega)) ?_
  cases hc : ctxB n l with
  | false => exact Ev.congr (fun k => by rw [if_neg (by decide), if_neg (by decide)]) (Ev.now _)
  | true =>
    obtain ⟨m, R, rfl, hm, rfl, hR, hb⟩ := ctxB_nat hc
    have hrow := fun i => lt_256 (show m ≤ 8 by omega) (row_lt hb i)
    have hp := pow_256 (show m ≤ 8 by omega)
    have hp1 := Nat.two_pow_pos m
    rw [Int.toNat_natCast, uncast, if_pos rfl]
    refine Ev.congr (fun k => by rw [if_pos rfl]) ?_
    refine ev_fold (g := fun k (a : Nat) i => spec_CountRules.l0 k (a : Int) i (m : Int) (cast R)) (openStep (closedQ m R)) (fun i a => a ≤ i) (N := 2 ^ m) ?_ (fun i a _ h => by unfold openStep; split <;> omega) (2 ^ m) 0 0 (by omega) (Nat.le_refl _) ?_
    · intro i a hi ha h
      refine Ev.step (f := fun k => (spec_l4Closure.f k (m : Int) (cast R) (i : Int)).bind fun t => (spec_l1Bit.f (t != (i : Int))).bind fun u => spec_CountRules.l0 k (wrap64 ((a : Int) + u)) ((i + 1 : Nat) : Int) (m : Int) (cast R)) (fun k => ?_) ?_
      · simp only [spec_CountRules.l0]
        rw [fullS_val, fullV_nat (by omega), Option.bind_some, if_pos (by omega), show wrap64 ((i : Int) + 1) = ((i + 1 : Nat) : Int) from by unfold wrap64; omega]
      · refine Ev.bind (clS4_val m (by omega) R hR hrow i (by omega)) ?_
        refine Ev.congr (fun k => ?_) h
        unfold openStep spec_l1Bit.f closedQ
        by_cases e : cl m R i = i
        · rw [e, show (((i : Int)) != (i : Int)) = false from by simp, if_neg (by decide), Option.bind_some, if_pos (decide_eq_true rfl), show wrap64 ((a : Int) + 0) = (a : Int) from by unfold wrap64; omega]
        · rw [show ((((cl m R i : Nat) : Int)) != (i : Int)) = true from bne_iff_ne.2 (by omega), if_pos rfl, Option.bind_some, if_neg (by rw [decide_eq_true_iff]; exact e), show wrap64 ((a : Int) + 1) = ((a + 1 : Nat) : Int) from by unfold wrap64; omega]
    · intro b hbb _
      have h2 := keptN_length (show m ≤ 8 by omega) (closedQ m R)
      have h3 := open_count (closedQ m R) (2 ^ m)
      rw [← hbb] at h3
      refine Ev.step (f := fun _ => some ((b : Int))) (fun k => ?_) ?_
      · simp only [spec_CountRules.l0]
        rw [fullS_val, fullV_nat (by omega), Option.bind_some, if_neg (by omega)]
      · rw [show b = 2 ^ m - (keptN m (closedQ m R)).length by omega]
        exact Ev.now _
end Go.Proofs.YtafnamchckehmaaGreatDoor.Pu
