/- Functions of the program as plain functions, proofs that their calls answer so, and plain laws: what the law needs. No condition beyond what each statement says. -/
import Derived.Test.YtafnamchckehmaaGreatDoorZFnRules11
import Derived.Lib.IndexBytes
import Derived.Test.YtafnamchckehmaaGreatDoorZFnRules12
namespace Go.Proofs.YtafnamchckehmaaGreatDoor.Pu
open Go.RowKit Go.Proofs.YtafnamchckehmaaGreatDoorW.PrintWords Go.Proofs.YtafnamchckehmaaGreatDoorW.PrintLast Go.Proofs.YtafnamchckehmaaGreatDoorW.PrintMore Go.Proofs.YtafnamchckehmaaGreatDoor.Pr
def ctxB (n : Int) (l : List Int) : Bool := decide (0 ≤ n ∧ n ≤ 6) && decide ((l.length : Int) ≤ 8) && l.all (isSetB n)
theorem ctxI_val (n : Int) (l : List Int) : impl_IsContext.f n l = some (ctxB n l) := rfl
theorem ctxS_loop (n : Int) (l : List Int) (hl : l.length ≤ 9223372036854775807) : ∀ (rest : List Int) (i : Nat), l.drop i = rest → Ev (fun k => spec_IsContext.l0 k (i : Int) n l) (decide (0 ≤ n ∧ n ≤ 6) && decide ((l.length : Int) ≤ 8) && rest.all (isSetB n)) := by
  intro rest
  induction rest with
  | nil =>
    intro i h
    have := drop_nil h
    refine Ev.step (f := fun _ => some (decide (0 ≤ n ∧ n ≤ 6) && decide ((l.length : Int) ≤ 8))) (fun k => ?_) ?_
    · simp only [spec_IsContext.l0]
      rw [if_neg (by omega), l1In_val, Option.bind_some]
      by_cases h6 : 0 ≤ n ∧ n ≤ 6
      · rw [decide_eq_true h6]; rfl
      · rw [decide_eq_false h6]; rfl
    · rw [List.all_nil, Bool.and_true]; exact Ev.now _
  | cons x rest ih =>
    intro i h
    obtain ⟨hi, hx, hd⟩ := drop_cons (d := 0) h
    cases hq : isSetB n x with
    | true =>
      refine Ev.step (f := fun k => spec_IsContext.l0 k ((i + 1 : Nat) : Int) n l) (fun k => ?_) ?_
      · simp only [spec_IsContext.l0]
        rw [if_pos (by omega), if_pos (by omega), rd_nat, hx, specSet_val, Option.bind_some, hq, if_pos rfl, wrap_succ hi hl]
      · rw [List.all_cons, hq, Bool.true_and]; exact ih (i + 1) hd
    | false =>
      refine Ev.step (f := fun _ => some false) (fun k => ?_) ?_
      · simp only [spec_IsContext.l0]
        rw [if_pos (by omega), if_pos (by omega), rd_nat, hx, specSet_val, Option.bind_some, hq, if_neg (by decide)]
      · rw [List.all_cons, hq, Bool.false_and, Bool.and_false]; exact Ev.now _
theorem ctxS_val (n : Int) (l : List Int) (hl : l.length ≤ 9223372036854775807) : Ev (fun k => spec_IsContext.f k n l) (ctxB n l) := ctxS_loop n l hl l 0 rfl
theorem ctxB_nat {n : Int} {l : List Int} (h : ctxB n l = true) : ∃ (m : Nat) (R : List Nat), n = (m : Int) ∧ m ≤ 6 ∧ l = cast R ∧ R.length ≤ 8 ∧ ∀ r ∈ R, r < 2 ^ m := by
  unfold ctxB at h
  rw [Bool.and_eq_true, Bool.and_eq_true, decide_eq_true_iff, decide_eq_true_iff, List.all_eq_true] at h
  obtain ⟨⟨h1, h2⟩, h3⟩ := h
  have hx : ∀ x ∈ l, 0 ≤ x ∧ x.toNat < 2 ^ n.toNat := by
    intro x hx
    obtain ⟨m, a, hm, e1, ha, e2⟩ := isSetB_nat (h3 x hx)
    subst e2
    refine ⟨by omega, ?_⟩
    rw [e1, Int.toNat_natCast, Int.toNat_natCast]
    exact ha
  refine ⟨n.toNat, l.map Int.toNat, by omega, by omega, cast_of fun x h => (hx x h).1, by rw [List.length_map]; omega, fun r hr => ?_⟩
  obtain ⟨x, hx', rfl⟩ := List.mem_map.1 hr
  exact (hx x hx').2
theorem col_lt (R : List Nat) (m : Nat) : col R m < 2 ^ R.length := ofBits_lt _ _
def attrB (n : Int) (l : List Int) (m : Int) : Bool := ctxB n l && decide (0 ≤ m ∧ m < n)
theorem attrI_val (n : Int) (l : List Int) (m : Int) : impl_isAttribute.f n l m = some (attrB n l m) := by
  unfold impl_isAttribute.f attrB
  rw [ctxI_val, Option.bind_some]
  cases h : ctxB n l with
  | false => rfl
  | true =>
    obtain ⟨q, R, rfl, hq, _⟩ := ctxB_nat h
    rw [if_pos rfl, within_val, Option.bind_some, Bool.true_and, show wrap64 ((q : Int) - 1) = (q : Int) - 1 from by unfold wrap64; omega]
    refine congrArg some ?_
    rw [decide_eq_decide]
    omega
theorem colI_loop (R : List Nat) (hR : R.length ≤ 8) (hrow : ∀ i, row R i < 256) (m : Nat) (hm : m ≤ 8) : Ev (fun k => impl_ColumnOf.l0 k (m : Int) 0 (cast R) ((cast R).length : Int) 0) ((col R m : Nat) : Int) := by
  refine ev_fold (g := fun k (a : Nat) i => impl_ColumnOf.l0 k (m : Int) (a : Int) (cast R) ((cast R).length : Int) i) (bitStep fun g => (row R g).testBit m) (fun _ a => a < 2 ^ R.length) (N := R.length) ?_ (fun i a hi h => bitStep_lt hi h) R.length 0 0 (by omega) (Nat.two_pow_pos _) ?_
  · intro i a hi ha h
    have ha' := lt_256 hR ha
    refine Ev.step (fun k => ?_) h
    simp only [impl_ColumnOf.l0]
    rw [if_pos (by rw [cast_length]; omega), if_pos (by omega), if_pos (by rw [cast_length]; omega), if_pos (by omega), rd_row, bit01 _ _ (by have := hrow i; omega) (by omega), or_shl ha' (by omega), wrap_succ hi (by omega)]
    rfl
  · intro b hb _
    refine Ev.step (f := fun _ => some (b : Int)) (fun k => ?_) ?_
    · simp only [impl_ColumnOf.l0]
      rw [if_neg (by rw [cast_length]; omega)]
    · rw [hb, fold_bits]; exact Ev.now _
theorem colI_val {n : Int} {l : List Int} {m : Nat} {R : List Nat} {g : Nat} (h : ctxB n l = true) (e : n = (m : Int)) (e' : l = cast R) (hm : m ≤ 6) (hR : R.length ≤ 8) (hb : ∀ r ∈ R, r < 2 ^ m) (hg : g < m) : Ev (fun k => impl_ColumnOf.f k n l (g : Int)) ((col R g : Nat) : Int) := by
  unfold impl_ColumnOf.f
  have ha : attrB n l (g : Int) = true := by unfold attrB; rw [h, Bool.true_and, decide_eq_true_iff]; omega
  refine Ev.congr (fun k => by rw [attrI_val, ha, Option.bind_some, if_pos rfl, e']) ?_
  exact colI_loop R hR (fun i => lt_256 (show m ≤ 8 by omega) (row_lt hb i)) g (by omega)
def cols (m : Nat) (R : List Nat) : List Nat := (List.range m).map (col R)
theorem cols_length (m : Nat) (R : List Nat) : (cols m R).length = m := by unfold cols; rw [List.length_map, List.length_range]
theorem row_cols {m i : Nat} (R : List Nat) (h : i < m) : row (cols m R) i = col R i := by
  unfold row cols
  rw [List.getD_eq_getElem?_getD, List.getElem?_map, List.getElem?_range h]
  rfl
theorem cols_lt {m : Nat} {R : List Nat} : ∀ r ∈ cols m R, r < 2 ^ R.length := by
  intro r hr
  obtain ⟨i, _, rfl⟩ := List.mem_map.1 hr
  exact col_lt R i
theorem colsI_val {n : Int} {l : List Int} {m : Nat} {R : List Nat} (h : ctxB n l = true) (e : n = (m : Int)) (e' : l = cast R) (hm : m ≤ 6) (hR : R.length ≤ 8) (hb : ∀ r ∈ R, r < 2 ^ m) : Ev (fun k => impl_columns.f k n l) (cast (cols m R)) := by
  unfold impl_columns.f
  subst e
  refine ev_fold (g := fun k (a : List Int) i => impl_columns.l0 k a (m : Int) i (m : Int) l) (fun i a => a ++ [((col R i : Nat) : Int)]) (fun i a => a = cast ((List.range i).map (col R))) (N := m) ?_ ?_ m 0 [] (by omega) rfl ?_
  · intro i a hi ha h'
    have hl : a.length ≤ 8 := by rw [ha, cast_length, List.length_map, List.length_range]; omega
    refine Ev.step (f := fun k => (impl_ColumnOf.f k (m : Int) l (i : Int)).bind fun t => impl_columns.l0 k (a ++ [t]) (m : Int) ((i + 1 : Nat) : Int) (m : Int) l) (fun k => ?_) ?_
    · simp only [impl_columns.l0]
      rw [if_pos (by omega), wrap_succ hi (by omega)]
      simp only [if_pos (show a.length < 17592186044416 by omega)]
    · exact Ev.bind (colI_val h rfl e' hm hR hb hi) h'
  · intro i a hi ha
    rw [ha, List.range_succ, List.map_append]
    unfold cast
    rw [List.map_append]
    rfl
  · intro b _ hb'
    refine Ev.step (f := fun _ => some b) (fun k => ?_) ?_
    · simp only [impl_columns.l0]
      rw [if_neg (by omega)]
    · rw [hb']; exact Ev.now _
def atsB (n : Int) (l : List Int) (a : Int) : Bool := ctxB n l && isSetB n a
theorem atsI_val (n : Int) (l : List Int) (a : Int) : impl_areAttributes.f n l a = some (atsB n l a) := by
  unfold impl_areAttributes.f atsB
  rw [ctxI_val, Option.bind_some]
  cases ctxB n l with
  | false => rfl
  | true => rw [if_pos rfl, set_val, Option.bind_some, Bool.true_and]
def obsB (n : Int) (l : List Int) (o : Int) : Bool := ctxB n l && isSetB (l.length : Int) o
theorem obsI_val (n : Int) (l : List Int) (o : Int) : impl_areObjects.f n l o = some (obsB n l o) := by
  unfold impl_areObjects.f obsB
  rw [ctxI_val, Option.bind_some]
  cases ctxB n l with
  | false => rfl
  | true => rw [if_pos rfl, set_val, Option.bind_some, Bool.true_and]
theorem ats_nat {n : Int} {l : List Int} {a : Int} (h : atsB n l a = true) : ctxB n l = true ∧ ∃ (m : Nat) (R : List Nat) (a' : Nat), n = (m : Int) ∧ m ≤ 6 ∧ l = cast R ∧ R.length ≤ 8 ∧ (∀ r ∈ R, r < 2 ^ m) ∧ a = (a' : Int) ∧ a' < 2 ^ m := by
  unfold atsB at h
  rw [Bool.and_eq_true] at h
  obtain ⟨hc, hs⟩ := h
  obtain ⟨m, R, rfl, hm, rfl, hR, hb⟩ := ctxB_nat hc
  obtain ⟨m', a', _, e, ha, rfl⟩ := isSetB_nat hs
  obtain rfl : m = m' := by omega
  exact ⟨hc, m, R, a', rfl, hm, rfl, hR, hb, rfl, ha⟩
def comStep (L : List Nat) (c i f : Nat) : Nat := if c.testBit i = true then f &&& row L i else f
def com (L : List Nat) (c f : Nat) : Nat := foldIdx (comStep L c) 0 L.length f
theorem comStep_le (L : List Nat) (c i f : Nat) : comStep L c i f ≤ f := by
  unfold comStep
  split
  · exact Nat.and_le_left
  · exact Nat.le_refl _
theorem testBit_fold_com (L : List Nat) (c j : Nat) : ∀ (d i f : Nat), i + d = L.length → ((foldIdx (comStep L c) i L.length f).testBit j = true ↔ f.testBit j = true ∧ ∀ g, i ≤ g → g < L.length → c.testBit g = true → (row L g).testBit j = true) := by
  intro d
  induction d with
  | zero =>
    intro i f h
    rw [foldIdx_end _ (by omega)]
    exact ⟨fun h => ⟨h, fun g h1 h2 => by omega⟩, fun h => h.1⟩
  | succ d ih =>
    intro i f h
    have hi : i < L.length := by omega
    rw [foldIdx_step _ hi f, ih (i + 1) _ (by omega)]
    unfold comStep
    by_cases hc : c.testBit i = true
    · rw [if_pos hc, Nat.testBit_and, Bool.and_eq_true]
      constructor
      · rintro ⟨⟨h1, h2⟩, h3⟩
        refine ⟨h1, fun g hg hg' hcg => ?_⟩
        by_cases e : g = i
        · subst e; exact h2
        · exact h3 g (by omega) hg' hcg
      · rintro ⟨h1, h2⟩
        exact ⟨⟨h1, h2 i (Nat.le_refl _) hi hc⟩, fun g hg hg' hcg => h2 g (by omega) hg' hcg⟩
    · rw [if_neg hc]
      constructor
      · rintro ⟨h1, h3⟩
        refine ⟨h1, fun g hg hg' hcg => ?_⟩
        by_cases e : g = i
        · subst e; exact absurd hcg hc
        · exact h3 g (by omega) hg' hcg
      · rintro ⟨h1, h2⟩
        exact ⟨h1, fun g hg hg' hcg => h2 g (by omega) hg' hcg⟩
theorem testBit_com (L : List Nat) (c f j : Nat) : (com L c f).testBit j = true ↔ f.testBit j = true ∧ ∀ g, g < L.length → c.testBit g = true → (row L g).testBit j = true := by
  unfold com
  rw [testBit_fold_com L c j L.length 0 f (by omega)]
  exact ⟨fun h => ⟨h.1, fun g h1 => h.2 g (Nat.zero_le _) h1⟩, fun h => ⟨h.1, fun g _ h1 => h.2 g h1⟩⟩
theorem testBit_col (R : List Nat) (m g : Nat) : (col R m).testBit g = (decide (g < R.length) && (row R g).testBit m) := testBit_ofBits ..
theorem ext_com {m : Nat} {R : List Nat} {a : Nat} (ha : a < 2 ^ m) : com (cols m R) a (full R.length) = ext R a := by
  apply Nat.eq_of_testBit_eq
  intro g
  rw [Bool.eq_iff_iff, testBit_com, testBit_ext, testBit_full, Bool.and_eq_true, decide_eq_true_iff, sub_iff, cols_length]
  refine and_congr_right fun hg => ⟨fun h i hi => ?_, fun h i hi hai => ?_⟩
  · have him : i < m := by
      rcases Nat.lt_or_ge i m with h' | h'
      · exact h'
      · rw [lt_two_pow_iff.1 ha i h'] at hi; cases hi
    have := h i him hi
    rw [row_cols R him, testBit_col, Bool.and_eq_true] at this
    exact this.2
  · rw [row_cols R hi, testBit_col, h i hai, decide_eq_true hg]
    rfl
theorem int_com (m : Nat) (R : List Nat) (o : Nat) : com R o (full m) = int m R o := by
  apply Nat.eq_of_testBit_eq
  intro i
  rw [Bool.eq_iff_iff, testBit_com, testBit_int, testBit_full, decide_eq_true_iff]
theorem ext_lt (R : List Nat) (a : Nat) : ext R a < 2 ^ R.length := ofBits_lt _ _
theorem comI_val (L : List Nat) (hl : L.length ≤ 8) (hL : ∀ i, row L i < 256) (c f : Nat) (hc : c < 256) (hf : f < 256) : Ev (fun k => impl_common.f k (cast L) (c : Int) (f : Int)) ((com L c f : Nat) : Int) := by
  unfold impl_common.f
  refine ev_fold (g := fun k (a : Nat) i => impl_common.l0 k (c : Int) (a : Int) (cast L) ((cast L).length : Int) i) (comStep L c) (fun _ a => a < 256) (N := L.length) ?_ (fun i a _ h => Nat.lt_of_le_of_lt (comStep_le L c i a) h) L.length 0 f (by omega) hf ?_
  · intro i a hi ha h
    refine Ev.step (fun k => ?_) h
    simp only [impl_common.l0]
    rw [if_pos (by rw [cast_length]; omega), if_pos (by omega), if_pos (by rw [cast_length]; omega), rd_row, wrap_succ hi (by omega), hasI_val, Option.bind_some]
    have hv : hasV (c : Int) (i : Int) = c.testBit i := by
      unfold hasV isAny
      rw [decide_eq_true (by omega), decide_eq_true (by omega)]
      simp
    rw [hv]
    unfold comStep
    by_cases h1 : c.testBit i = true
    · rw [if_pos h1, if_pos h1, and_nat (by omega) (by have := hL i; omega)]
    · rw [if_neg h1, if_neg h1]
  · intro b hb _
    refine Ev.step (f := fun _ => some (b : Int)) (fun k => ?_) ?_
    · simp only [impl_common.l0]
      rw [if_neg (by rw [cast_length]; omega)]
    · rw [hb]; exact Ev.now _
theorem intS_val (m : Nat) (hm : m ≤ 8) (R : List Nat) (hR : R.length ≤ 8) (hrow : ∀ i, row R i < 256) (o : Nat) (ho : o < 256) : Ev (fun k => spec_l4Intent.f k (m : Int) (cast R) (o : Int)) ((int m R o : Nat) : Int) := by
  unfold spec_l4Intent.f
  refine Ev.congr (fun k => by rw [fullS_val, Option.bind_some, fullN hm]) ?_
  refine ev_fold (g := fun k (a : Nat) i => spec_l4Intent.l0 k (o : Int) (a : Int) i (m : Int) (cast R)) (comStep R o) (fun _ a => a < 256) (N := R.length) ?_ (fun i a _ h => Nat.lt_of_le_of_lt (comStep_le R o i a) h) R.length 0 (full m) (by omega) (full_256 hm) ?_
  · intro i a hi ha h
    refine Ev.step (fun k => ?_) h
    simp only [spec_l4Intent.l0]
    rw [if_pos (by rw [cast_length]; omega), l2Has_val _ _ (by omega) (by omega), Option.bind_some, rd_row, wrap_succ hi (by omega)]
    unfold comStep
    by_cases h1 : o.testBit i = true
    · rw [if_pos h1, if_pos (by omega), if_pos h1, and_nat (by omega) (by have := hrow i; omega)]
    · rw [if_neg h1, if_neg h1]
  · intro b hb _
    refine Ev.step (f := fun _ => some (b : Int)) (fun k => ?_) ?_
    · simp only [spec_l4Intent.l0]
      rw [if_neg (by rw [cast_length]; omega)]
    · rw [hb, show foldIdx (comStep R o) 0 R.length (full m) = int m R o from int_com m R o]; exact Ev.now _
theorem extS_val (n : Int) (R : List Nat) (hR : R.length ≤ 8) (hrow : ∀ i, row R i < 256) (a : Nat) (ha : a < 256) : Ev (fun k => spec_l4Extent.f k n (cast R) (a : Int)) ((ext R a : Nat) : Int) := by
  unfold spec_l4Extent.f
  refine ev_fold (g := fun k (b : Nat) i => spec_l4Extent.l0 k (a : Int) (b : Int) i n (cast R)) (bitStep fun g => sub a (row R g)) (fun _ b => b < 2 ^ R.length) (N := R.length) ?_ (fun i b hi h => bitStep_lt hi h) R.length 0 0 (by omega) (Nat.two_pow_pos _) ?_
  · intro i b hi hb h
    have hb' := lt_256 hR hb
    refine Ev.step (fun k => ?_) h
    simp only [spec_l4Extent.l0]
    rw [if_pos (by rw [cast_length]; omega), if_pos (by omega), rd_row, wrap_succ hi (by omega), wrapU_small _ (by omega) (by omega)]
    unfold bitStep
    dsimp only
    by_cases h1 : sub a (row R i) = true
    · rw [if_pos ((and_is ha (hrow i)).2 h1), if_pos (by omega), if_pos h1, or_bit hb' (by omega)]
    · rw [if_neg (fun h => h1 ((and_is ha (hrow i)).1 h)), if_neg h1]
  · intro b hb _
    refine Ev.step (f := fun _ => some (b : Int)) (fun k => ?_) ?_
    · simp only [spec_l4Extent.l0]
      rw [if_neg (by rw [cast_length]; omega)]
    · rw [hb, fold_bits]; exact Ev.now _
theorem clS4_val (m : Nat) (hm : m ≤ 8) (R : List Nat) (hR : R.length ≤ 8) (hrow : ∀ i, row R i < 256) (a : Nat) (ha : a < 256) : Ev (fun k => spec_l4Closure.f k (m : Int) (cast R) (a : Int)) ((cl m R a : Nat) : Int) := by
  unfold spec_l4Closure.f
  refine Ev.bind (extS_val _ R hR hrow a ha) ?_
  exact Ev.bind (intS_val m hm R hR hrow _ (lt_256 hR (ext_lt R a))) (Ev.now _)
theorem clI4_val {m : Nat} (hm : m ≤ 6) {R : List Nat} (hR : R.length ≤ 8) (hb : ∀ r ∈ R, r < 2 ^ m) {a : Nat} (ha : a < 2 ^ m) (hc : ctxB (m : Int) (cast R) = true) : Ev (fun k => impl_ClosureOf.f k (m : Int) (cast R) (a : Int)) ((cl m R a : Nat) : Int) := by
  have hat : atsB (m : Int) (cast R) (a : Int) = true := by unfold atsB; rw [hc, isSetB_mk (by omega) ha]; rfl
  have hob : obsB (m : Int) (cast R) ((ext R a : Nat) : Int) = true := by unfold obsB; rw [hc, cast_length, isSetB_mk hR (ext_lt R a)]; rfl
  have hrow := fun i => lt_256 (show m ≤ 8 by omega) (row_lt hb i)
  unfold impl_ClosureOf.f impl_ExtentOf.f impl_IntentOf.f
  rw [atsI_val, hat]
  simp only [Option.bind_some]
  refine Ev.congr (fun k => by rw [if_true, if_true]) ?_
  have h1 : Ev (fun k => (impl_columns.f k (m : Int) (cast R)).bind fun t371 => (impl_FullSet.f ((cast R).length : Int)).bind fun t374 => (impl_common.f k t371 (a : Int) t374).bind fun t375 => some t375) ((ext R a : Nat) : Int) := by
    refine Ev.bind (colsI_val hc rfl rfl hm hR hb) ?_
    refine Ev.congr (fun k => by rw [fullI_val, Option.bind_some, cast_length, fullN hR]) ?_
    refine Ev.bind (comI_val (cols m R) (by rw [cols_length]; omega) (fun i => lt_256 hR (row_lt cols_lt i)) a _ (lt_256 (show m ≤ 8 by omega) ha) (full_256 hR)) ?_
    rw [ext_com ha]
    exact Ev.now _
  refine Ev.bind h1 ?_
  refine Ev.congr (fun k => by rw [obsI_val, hob, Option.bind_some, if_pos rfl, fullI_val, Option.bind_some, fullN (by omega)]) ?_
  have h2 : Ev (fun k => (impl_common.f k (cast R) ((ext R a : Nat) : Int) ((full m : Nat) : Int)).bind fun t368 => some t368) ((cl m R a : Nat) : Int) := by
    refine Ev.bind (comI_val R hR hrow _ _ (lt_256 hR (ext_lt R a)) (full_256 (by omega))) ?_
    rw [int_com]
    exact Ev.now _
  exact Ev.bind h2 (Ev.now _)
def holdV (n : Int) (l : List Int) (a b : Int) : Bool := atsB n l a && atsB n l b && sub b.toNat (cl n.toNat (l.map Int.toNat) a.toNat)
theorem cl_256 {m : Nat} (hm : m ≤ 8) (R : List Nat) (a : Nat) : cl m R a < 256 := lt_256 hm (cl_lt m R a)
theorem holdI_val (n : Int) (l : List Int) (_hl : l.length ≤ 1048576) (a b : Int) : Ev (fun k => impl_HoldsIn.f k n l a b) (holdV n l a b) := by
  unfold impl_HoldsIn.f holdV
  rw [atsI_val]
  simp only [Option.bind_some]
  cases h : atsB n l a with
  | false => exact Ev.congr (fun k => by rw [if_neg (by decide), Bool.false_and, Bool.false_and]) (Ev.now _)
  | true =>
    refine Ev.congr (fun k => by rw [if_pos rfl, atsI_val, Option.bind_some]) ?_
    cases h' : atsB n l b with
    | false => exact Ev.congr (fun k => by rw [if_neg (by decide), Bool.true_and, Bool.false_and]) (Ev.now _)
    | true =>
      obtain ⟨hc, m, R, a', rfl, hm, rfl, hR, hb, rfl, ha⟩ := ats_nat h
      obtain ⟨_, m', _, b', e, _, _, _, _, rfl, hb'⟩ := ats_nat h'
      obtain rfl : m = m' := by omega
      rw [uncast, Int.toNat_natCast, Int.toNat_natCast, Int.toNat_natCast]
      refine Ev.congr (fun k => by rw [if_pos rfl]) ?_
      refine Ev.bind (clI4_val hm hR hb ha hc) ?_
      exact Ev.congr (fun k => by rw [inS_val (lt_256 (by omega) hb') (cl_256 (by omega) R a'), Option.bind_some]; rfl) (Ev.now _)
theorem holdS_val (n : Int) (l : List Int) (hl : l.length ≤ 1048576) (a b : Int) : Ev (fun k => spec_HoldsIn.f k n l a b) (holdV n l a b) := by
  unfold spec_HoldsIn.f holdV
  refine Ev.bind (ctxS_val n l (by omega)) ?_
  cases hc : ctxB n l with
  | false =>
    rw [show atsB n l a = false from by unfold atsB; rw [hc]; rfl]
    exact Ev.congr (fun k => by rw [if_neg (by decide), Bool.false_and, Bool.false_and]) (Ev.now _)
  | true =>
    refine Ev.congr (fun k => by rw [if_pos rfl, rule_val, Option.bind_some, show (isSetB n a && isSetB n b) = (atsB n l a && atsB n l b) from by unfold atsB; rw [hc, Bool.true_and, Bool.true_and]]) ?_
    cases h : atsB n l a && atsB n l b with
    | false => exact Ev.congr (fun k => by rw [if_neg (by decide), Bool.false_and]) (Ev.now _)
    | true =>
      rw [Bool.and_eq_true] at h
      obtain ⟨h, h'⟩ := h
      obtain ⟨_, m, R, a', rfl, hm, rfl, hR, hb, rfl, ha⟩ := ats_nat h
      obtain ⟨_, m', _, b', e, _, _, _, _, rfl, hb'⟩ := ats_nat h'
      obtain rfl : m = m' := by omega
      rw [uncast, Int.toNat_natCast, Int.toNat_natCast, Int.toNat_natCast, Bool.true_and]
      have hrow := fun i => lt_256 (show m ≤ 8 by omega) (row_lt hb i)
      refine Ev.congr (fun k => by rw [if_pos rfl]) ?_
      refine Ev.bind (clS4_val m (by omega) R hR hrow a' (lt_256 (by omega) ha)) ?_
      refine Ev.congr (fun k => ?_) (Ev.now _)
      refine congrArg some ?_
      rw [Bool.eq_iff_iff, beq_iff_eq]
      exact and_is' (lt_256 (by omega) hb') (cl_256 (by omega) R a')
theorem clofS_val {m : Nat} (hm : m ≤ 6) {R : List Nat} (hR : R.length ≤ 8) (hb : ∀ r ∈ R, r < 2 ^ m) (hc : ctxB (m : Int) (cast R) = true) {a : Nat} (ha : a < 2 ^ m) : Ev (fun k => spec_ClosureOf.f k (m : Int) (cast R) (a : Int)) ((cl m R a : Nat) : Int) := by
  have hrow := fun i => lt_256 (show m ≤ 8 by omega) (row_lt hb i)
  unfold spec_ClosureOf.f
  refine Ev.bind (ctxS_val _ _ (by rw [cast_length]; omega)) ?_
  rw [hc]
  refine Ev.congr (fun k => by rw [if_pos rfl, specSet_val, isSetB_mk (by omega) ha, Option.bind_some, if_pos rfl]) ?_
  exact Ev.bind (clS4_val m (by omega) R hR hrow a (lt_256 (show m ≤ 8 by omega) ha)) (Ev.now _)
def bI (l : List UInt8) : List Int := l.map fun b => (b.toNat : Int)
theorem bI_length (l : List UInt8) : (bI l).length = l.length := List.length_map ..
theorem bI_append (a b : List UInt8) : bI (a ++ b) = bI a ++ bI b := by unfold bI; rw [List.map_append]
theorem bytesOf_bI (s : ByteArray) : bytesOf s = bI s.data.toList := rfl
theorem strOf_bI (l : List UInt8) : strOfNums (bI l) = ⟨l.toArray⟩ := by
  unfold strOfNums bI
  rw [List.map_map]
  congr 2
  conv => rhs; rw [← List.map_id l]
  refine List.map_congr_left fun b _ => ?_
  simp
abbrev bl (l : List ByteArray) : List (List UInt8) := l.map (·.data.toList)
def jn (l : List ByteArray) (s : ByteArray) : List UInt8 := Lib.join (bl l) s.data.toList
theorem jn_nil (s : ByteArray) : jn [] s = [] := rfl
theorem jn_len {l : List ByteArray} (s : ByteArray) (h : 0 < l.length) : (jn l s).length = s.size * (l.length - 1) + Lib.lens (bl l) := by
  cases l with
  | nil => simp at h
  | cons x r =>
    unfold jn bl
    rw [List.map_cons, Lib.join_length, List.length_map, Lib.size_eq, List.length_cons, Nat.add_sub_cancel]
theorem lens_snoc (l : List ByteArray) (x : ByteArray) : Lib.lens (bl (l ++ [x])) = Lib.lens (bl l) + x.size := by
  unfold Lib.lens bl
  rw [List.map_append, List.map_append, List.sum_append, Lib.size_eq]
  rfl
theorem jn_snoc {l : List ByteArray} (s x : ByteArray) : jn (l ++ [x]) s = if l.length = 0 then x.data.toList else jn l s ++ s.data.toList ++ x.data.toList := by
  cases l with
  | nil => rw [if_pos List.length_nil]; unfold jn bl; exact Lib.join_one _ _
  | cons y r =>
    rw [if_neg (by simp)]
    unfold jn bl
    rw [List.cons_append, List.map_cons, List.map_cons, Lib.join_cons, Lib.join_cons, List.map_append]
    unfold Lib.joinTail
    rw [List.map_append, List.flatten_append]
    simp [List.append_assoc]
theorem jn_mono (s : ByteArray) (l r : List ByteArray) : (jn l s).length ≤ (jn (l ++ r) s).length := by
  rcases Nat.eq_zero_or_pos l.length with h | h
  · rw [List.eq_nil_of_length_eq_zero h, jn_nil]; exact Nat.zero_le _
  · rw [jn_len s h, jn_len s (by rw [List.length_append]; omega), List.length_append]
    have h1 : s.size * (l.length - 1) ≤ s.size * (l.length + r.length - 1) := Nat.mul_le_mul_left _ (by omega)
    have h2 : Lib.lens (bl l) ≤ Lib.lens (bl (l ++ r)) := by
      unfold Lib.lens bl
      rw [List.map_append, List.map_append, List.sum_append]
      omega
    omega
def jV (l : List ByteArray) (s : ByteArray) : ByteArray := if (jn l s).length > 1048576 then ⟨#[]⟩ else ⟨(jn l s).toArray⟩
theorem joinS_val (l : List ByteArray) (s : ByteArray) (hl : l.length ≤ 1048576) (hs : s.size ≤ 1000) (hx : ∀ x ∈ l, x.size ≤ 1000) : Ev (fun k => spec_Join.f k l s) (jV l s) := by
  unfold spec_Join.f
  have key : ∀ (rest : List ByteArray) (i : Nat), l.drop i = rest → (jn (l.take i) s).length ≤ 1048576 → Ev (fun k => spec_Join.l0 k l s (bI (jn (l.take i) s)) (i : Int)) (jV l s) := by
    intro rest
    induction rest with
    | nil =>
      intro i h hj
      have hi := drop_nil h
      rw [List.take_of_length_le hi] at hj ⊢
      refine Ev.step (f := fun k => some (strOfNums (bI (jn l s)))) (fun k => ?_) ?_
      · simp only [spec_Join.l0]
        rw [if_neg (by omega)]
      · unfold jV
        rw [if_neg (by omega), strOf_bI]
        exact Ev.now _
    | cons x rest ih =>
      intro i h hj
      obtain ⟨hi, hxi, hd⟩ := drop_cons (d := ByteArray.empty) h
      have hxs : x.size ≤ 1000 := hx x (List.mem_of_mem_drop (i := i) (by rw [h]; exact List.mem_cons_self))
      have ht : l.take (i + 1) = l.take i ++ [x] := by
        rw [List.take_succ_eq_append_getElem hi]
        congr 2
        rw [← hxi, List.getD_eq_getElem?_getD, List.getElem?_eq_getElem hi]
        rfl
      have hrd : rdOf ByteArray.empty l (i : Int) = x := by unfold rdOf; rw [Int.toNat_natCast]; exact hxi
      have htl : (l.take i).length = i := by rw [List.length_take]; omega
      have hsn := jn_snoc (l := l.take i) s x
      rw [← ht, htl] at hsn
      have hstep : ∀ k, spec_Join.l0 (k + 1) l s (bI (jn (l.take i) s)) (i : Int) = if (jn (l.take (i + 1)) s).length > 1048576 then some (⟨#[]⟩ : ByteArray) else spec_Join.l0 k l s (bI (jn (l.take (i + 1)) s)) ((i + 1 : Nat) : Int) := by
        intro k
        simp only [spec_Join.l0]
        rw [if_pos (by omega)]
        have h0 : ((s.data.toList).length) = s.size := (Lib.size_eq s).symm
        by_cases hz : i = 0
        · rw [if_neg (by omega), if_pos (by omega), hrd, if_pos (by rw [bI_length]; omega)]
          simp only [Option.bind_some]
          rw [if_pos hz] at hsn
          have e0 : jn (l.take i) s = [] := by rw [hz]; rfl
          rw [e0, bytesOf_bI, show bI [] ++ bI x.data.toList = bI x.data.toList from rfl, bI_length, hsn, wrap_succ hi (by omega)]
          by_cases hc : x.data.toList.length > 1048576
          · rw [if_pos hc, if_pos (by omega)]
          · rw [if_neg hc, if_neg (by omega)]
        · rw [if_pos (by omega), if_pos (by rw [bI_length]; omega)]
          simp only [Option.bind_some]
          rw [if_pos (by omega), hrd, bytesOf_bI, ← bI_append, if_pos (by rw [bI_length, List.length_append]; omega)]
          rw [if_neg hz] at hsn
          rw [bytesOf_bI, ← bI_append, bI_length, hsn, wrap_succ hi (by omega)]
          by_cases hc : (jn (l.take i) s ++ s.data.toList ++ x.data.toList).length > 1048576
          · rw [if_pos hc, if_pos (by omega)]
          · rw [if_neg hc, if_neg (by omega)]
      by_cases hc : (jn (l.take (i + 1)) s).length > 1048576
      · refine Ev.step (f := fun k => some (⟨#[]⟩ : ByteArray)) (fun k => by rw [hstep, if_pos hc]) ?_
        have := jn_mono s (l.take (i + 1)) (l.drop (i + 1))
        rw [List.take_append_drop] at this
        unfold jV
        rw [if_pos (by omega)]
        exact Ev.now _
      · exact Ev.step (fun k => by rw [hstep, if_neg hc]) (ih (i + 1) hd (by omega))
  exact key l 0 rfl (by simp [jn_nil])
theorem joinI_val (l : List ByteArray) (s : ByteArray) (hl : l.length ≤ 1048576) (hn : 0 < l.length) (hs : s.size = 1) (hx : ∀ x ∈ l, x.size ≤ 1000) : Ev (fun k => impl_Join.f k l s) (jV l s) := by
  unfold impl_Join.f
  have e0 : wrap64 ((mx (wrap64 ((l.length : Int) - 1)) 0) * (s.size : Int)) = ((l.length - 1 : Nat) : Int) := by
    rw [hs, show wrap64 ((l.length : Int) - 1) = ((l.length - 1 : Nat) : Int) by unfold wrap64; omega]
    unfold mx
    rw [if_neg (by omega)]
    unfold wrap64
    omega
  rw [e0]
  have key : ∀ (rest : List ByteArray) (i : Nat), l.drop i = rest → Lib.lens (bl (l.take i)) ≤ 1000 * i → Ev (fun k => impl_Join.l0 k l s ((l.length - 1 + Lib.lens (bl (l.take i)) : Nat) : Int) l (l.length : Int) (i : Int)) (jV l s) := by
    intro rest
    induction rest with
    | nil =>
      intro i h hj
      have hi := drop_nil h
      rw [List.take_of_length_le hi] at hj ⊢
      have hlen := jn_len s hn
      rw [hs, Nat.one_mul] at hlen
      rw [← hlen]
      refine Ev.step (f := fun k => some (jV l s)) (fun k => ?_) (Ev.now _)
      simp only [impl_Join.l0]
      rw [if_neg (by omega)]
      unfold jV
      by_cases hc : (jn l s).length > 1048576
      · rw [if_pos (by omega), if_pos hc]
      · rw [if_neg (by omega), if_neg hc]
        unfold strings_Join.f
        rw [if_pos ⟨by omega, by have : (jn l s).length = (Lib.join (l.map (·.data.toList)) s.data.toList).length := rfl; omega⟩]
        rfl
    | cons x rest ih =>
      intro i h hj
      obtain ⟨hi, hxi, hd⟩ := drop_cons (d := ByteArray.empty) h
      have hxs : x.size ≤ 1000 := hx x (List.mem_of_mem_drop (i := i) (by rw [h]; exact List.mem_cons_self))
      have ht : l.take (i + 1) = l.take i ++ [x] := by
        rw [List.take_succ_eq_append_getElem hi]
        congr 2
        rw [← hxi, List.getD_eq_getElem?_getD, List.getElem?_eq_getElem hi]
        rfl
      have hrd : rdOf ByteArray.empty l (i : Int) = x := by unfold rdOf; rw [Int.toNat_natCast]; exact hxi
      have hls : Lib.lens (bl (l.take (i + 1))) = Lib.lens (bl (l.take i)) + x.size := by rw [ht, lens_snoc]
      refine Ev.step (fun k => ?_) (ih (i + 1) hd (by omega))
      simp only [impl_Join.l0]
      rw [if_pos (by omega), if_pos (by omega), if_pos (by omega), hrd, wrap_succ hi (by omega), hls]
      congr 1
      unfold wrap64
      omega
  have := key l 0 rfl (by simp [Lib.lens])
  simpa [Lib.lens] using this
def piece (e : Int) : ByteArray := (⟨#[97, 98, 99, 100, 101, 102, 103, 104]⟩ : ByteArray).extract (e : Int).toNat ((wrap64 (e + 1)) : Int).toNat
theorem piece_size (e : Int) : (piece e).size ≤ 8 := by
  unfold piece
  rw [ByteArray.size_extract]
  have : (⟨#[97, 98, 99, 100, 101, 102, 103, 104]⟩ : ByteArray).size = 8 := rfl
  omega
def textL (l : List Int) (x : ByteArray) : ByteArray := l.foldl (fun x e => x ++ piece e) x
theorem textL_size : ∀ (l : List Int) (x : ByteArray), (textL l x).size ≤ x.size + 8 * l.length
  | [], x => by simp [textL]
  | e :: l, x => by
    have h := textL_size l (x ++ piece e)
    rw [ByteArray.size_append] at h
    have := piece_size e
    rw [show textL (e :: l) x = textL l (x ++ piece e) from rfl, List.length_cons]
    omega
theorem rdI (l : List Int) (i : Nat) : rd l (i : Int) = l.getD i 0 := by unfold rd; rw [Int.toNat_natCast]
theorem mem_of_drop {α : Type} {l rest : List α} {i : Nat} {x : α} (h : l.drop i = x :: rest) : x ∈ l := List.mem_of_mem_drop (i := i) (by rw [h]; exact List.mem_cons_self)
theorem textS_loop (l : List Int) (hl : l.length ≤ 8) (hr : ∀ e ∈ l, 0 ≤ e ∧ e ≤ 7) : ∀ (rest : List Int) (i : Nat) (x : ByteArray), l.drop i = rest → x.size ≤ 8 * i → Ev (fun k => spec_SetText.l0 k x l (i : Int)) (textL rest x) := by
  intro rest
  induction rest with
  | nil =>
    intro i x h hx
    have := drop_nil h
    refine Ev.step (f := fun _ => some x) (fun k => ?_) (Ev.now _)
    simp only [spec_SetText.l0]
    rw [if_neg (by omega)]
  | cons e rest ih =>
    intro i x h hx
    obtain ⟨hi, he, hd⟩ := drop_cons (d := 0) h
    have hb := hr e (mem_of_drop h)
    have hp := piece_size e
    have hw : wrap64 (e + 1) = e + 1 := by unfold wrap64; omega
    refine Ev.step (f := fun k => spec_SetText.l0 k (x ++ piece e) l ((i + 1 : Nat) : Int)) (fun k => ?_) (ih (i + 1) (x ++ piece e) hd (by rw [ByteArray.size_append]; omega))
    simp only [spec_SetText.l0]
    rw [if_pos (by omega), if_pos (by omega), rdI, he, if_pos hb.1, if_pos (by omega), if_pos (by omega), wrap_succ hi (by omega)]
    rw [show (⟨#[97, 98, 99, 100, 101, 102, 103, 104]⟩ : ByteArray).extract (e : Int).toNat ((wrap64 (e + 1)) : Int).toNat = piece e from rfl, if_pos (by omega)]
theorem textI_loop (l : List Int) (hl : l.length ≤ 8) (hr : ∀ e ∈ l, 0 ≤ e ∧ e ≤ 7) : ∀ (rest : List Int) (i : Nat) (x : ByteArray), l.drop i = rest → x.size ≤ 8 * i → Ev (fun k => impl_SetText.l0 k x l (l.length : Int) (i : Int)) (textL rest x) := by
  intro rest
  induction rest with
  | nil =>
    intro i x h hx
    have := drop_nil h
    refine Ev.step (f := fun _ => some x) (fun k => ?_) (Ev.now _)
    simp only [impl_SetText.l0]
    rw [if_neg (by omega)]
  | cons e rest ih =>
    intro i x h hx
    obtain ⟨hi, he, hd⟩ := drop_cons (d := 0) h
    have hb := hr e (mem_of_drop h)
    have hp := piece_size e
    have hw : wrap64 (e + 1) = e + 1 := by unfold wrap64; omega
    refine Ev.step (f := fun k => impl_SetText.l0 k (x ++ piece e) l (l.length : Int) ((i + 1 : Nat) : Int)) (fun k => ?_) (ih (i + 1) (x ++ piece e) hd (by rw [ByteArray.size_append]; omega))
    simp only [impl_SetText.l0]
    rw [if_pos (by omega), if_pos (by omega), if_pos (by omega), rdI, he, if_pos hb.1, if_pos (by omega), if_pos (by omega), wrap_succ hi (by omega)]
    rw [show (⟨#[97, 98, 99, 100, 101, 102, 103, 104]⟩ : ByteArray).extract (e : Int).toNat ((wrap64 (e + 1)) : Int).toNat = piece e from rfl, if_pos (by omega)]
def setText (s : Int) : ByteArray := if isAny s then (if s = 0 then (⟨#[45]⟩ : ByteArray) else textL (elemsV s) (⟨#[]⟩ : ByteArray)) else (⟨#[]⟩ : ByteArray)
theorem setText_size (s : Int) : (setText s).size ≤ 64 := by
  unfold setText
  split
  · split
    · exact (by decide : (⟨#[45]⟩ : ByteArray).size ≤ 64)
    · have := textL_size (elemsV s) (⟨#[]⟩ : ByteArray)
      have h2 := elemsV_length s
      have h3 : (⟨#[]⟩ : ByteArray).size = 0 := rfl
      omega
  · exact (by decide : (⟨#[]⟩ : ByteArray).size ≤ 64)
theorem setTextS_val (s : Int) : Ev (fun k => spec_SetText.f k s) (setText s) := by
  unfold spec_SetText.f setText
  rw [specSet_val, isSetB_8]
  simp only [Option.bind_some]
  cases isAny s with
  | false => exact Ev.congr (fun k => by rw [if_neg (by decide)]; rfl) (Ev.now _)
  | true =>
    by_cases h : s = 0
    · exact Ev.congr (fun k => by rw [if_pos rfl, if_pos h]) (by rw [if_pos rfl, if_pos h]; exact Ev.now _)
    · rw [if_pos rfl, if_neg h]
      refine Ev.congr (fun k => by rw [if_pos rfl, if_neg h]) ?_
      exact Ev.bind (elemsS_val s) (textS_loop _ (elemsV_length s) (elemsV_range s) (elemsV s) 0 _ rfl (by decide))
theorem setTextI_val (s : Int) : Ev (fun k => impl_SetText.f k s) (setText s) := by
  unfold impl_SetText.f setText
  rw [any_val]
  simp only [Option.bind_some]
  cases isAny s with
  | false => exact Ev.congr (fun k => by rw [if_neg (by decide)]; rfl) (Ev.now _)
  | true =>
    by_cases h : s = 0
    · exact Ev.congr (fun k => by rw [if_pos rfl, if_pos h]) (by rw [if_pos rfl, if_pos h]; exact Ev.now _)
    · rw [if_pos rfl, if_neg h]
      refine Ev.congr (fun k => by rw [if_pos rfl, if_neg h]) ?_
      exact Ev.bind (elemsI_val s) (textI_loop _ (elemsV_length s) (elemsV_range s) (elemsV s) 0 _ rfl (by decide))
def ruleText (r : IR) : ByteArray := if anyR r then (setText r.f0 ++ (⟨#[62]⟩ : ByteArray)) ++ setText r.f1 else (⟨#[]⟩ : ByteArray)
theorem ruleTextS_val (a b : Int) : Ev (fun k => spec_RuleText.f k a b) (ruleText ⟨a, b⟩) := by
  unfold spec_RuleText.f ruleText
  rw [rule_val, isSetB_8, isSetB_8, show (isAny a && isAny b) = anyR ⟨a, b⟩ from rfl]
  simp only [Option.bind_some]
  cases anyR ⟨a, b⟩ with
  | false => exact Ev.congr (fun k => by rw [if_neg (by decide)]; rfl) (Ev.now _)
  | true =>
    rw [if_pos rfl]
    refine Ev.congr (fun k => by rw [if_pos rfl]) ?_
    have h1 := setText_size a
    have h2 := setText_size b
    refine Ev.bind (setTextS_val a) ?_
    refine Ev.congr (fun k => by rw [if_pos (by omega)]) ?_
    refine Ev.bind (setTextS_val b) ?_
    refine Ev.congr (fun k => by rw [if_pos (by rw [ByteArray.size_append, show (⟨#[62]⟩ : ByteArray).size = 1 from rfl]; omega)]) (Ev.now _)
theorem ruleTextI_val (a b : Int) : Ev (fun k => impl_RuleText.f k a b) (ruleText ⟨a, b⟩) := by
  unfold impl_RuleText.f impl_areAnyRules.f ruleText
  simp only [Option.bind_some]
  rw [show ([(⟨a, b⟩ : IR)].all anyR) = anyR ⟨a, b⟩ from by simp]
  cases anyR ⟨a, b⟩ with
  | false => exact Ev.congr (fun k => by rw [if_neg (by decide)]; rfl) (Ev.now _)
  | true =>
    rw [if_pos rfl]
    refine Ev.congr (fun k => by rw [if_pos rfl]) ?_
    have h1 := setText_size a
    have h2 := setText_size b
    refine Ev.bind (setTextI_val a) ?_
    refine Ev.congr (fun k => by rw [if_pos (by omega)]) ?_
    refine Ev.bind (setTextI_val b) ?_
    refine Ev.congr (fun k => by rw [if_pos (by rw [ByteArray.size_append, show (⟨#[62]⟩ : ByteArray).size = 1 from rfl]; omega)]) (Ev.now _)
theorem ruleText_size (r : IR) : (ruleText r).size ≤ 1000 := by
  unfold ruleText
  split
  · rw [ByteArray.size_append, ByteArray.size_append]
    have h1 := setText_size r.f0
    have h2 := setText_size r.f1
    have h3 : (⟨#[62]⟩ : ByteArray).size = 1 := rfl
    omega
  · exact Nat.zero_le _
theorem ruleText_none (r : IR) : (ruleText r).toList = ([] : List UInt8) ↔ anyR r = false := by
  unfold ruleText
  cases h : anyR r with
  | false => rw [if_neg (by decide)]; exact ⟨fun _ => rfl, fun _ => by rw [Lib.toList_data]⟩
  | true =>
    rw [if_pos rfl]
    constructor
    · intro e
      have hl := congrArg List.length e
      rw [Lib.toList_data, ← Lib.size_eq, ByteArray.size_append, ByteArray.size_append] at hl
      have h3 : (⟨#[62]⟩ : ByteArray).size = 1 := rfl
      rw [List.length_nil] at hl
      omega
    · intro e; cases e
def rtV (l : List IR) : ByteArray := if l.length = 0 then ⟨#[110, 111, 110, 101]⟩ else if l.all anyR = true then jV (l.map ruleText) ⟨#[32]⟩ else ⟨#[]⟩
theorem texts_small (l : List IR) : ∀ x ∈ l.map ruleText, x.size ≤ 1000 := by
  intro x hx
  obtain ⟨r, _, rfl⟩ := List.mem_map.1 hx
  exact ruleText_size r
theorem take_one {α : Type} {l rest : List α} {i : Nat} {x : α} (h : l.drop i = x :: rest) : l.take (i + 1) = l.take i ++ [x] := by
  obtain ⟨hi, hxi, _⟩ := drop_cons (d := x) h
  rw [List.take_succ_eq_append_getElem hi]
  congr 2
  rw [← hxi, List.getD_eq_getElem?_getD, List.getElem?_eq_getElem hi]
  rfl
theorem rtS_val (l : List IR) (hl : l.length ≤ 1048576) : Ev (fun k => spec_RulesText.f k l) (rtV l) := by
  unfold spec_RulesText.f rtV
  by_cases hz : l.length = 0
  · rw [if_pos hz]
    exact Ev.congr (fun k => by rw [if_pos (by omega)]) (Ev.now _)
  rw [if_neg hz]
  refine Ev.congr (fun k => by rw [if_neg (by omega)]) ?_
  have key : ∀ (rest : List IR) (i : Nat), l.drop i = rest → Ev (fun k => spec_RulesText.l0 k l ((l.take i).map ruleText) (i : Int)) (if rest.all anyR = true then jV (l.map ruleText) ⟨#[32]⟩ else ⟨#[]⟩) := by
    intro rest
    induction rest with
    | nil =>
      intro i h
      have hi := drop_nil h
      rw [List.take_of_length_le hi, if_pos (show (([] : List IR).all anyR) = true from rfl)]
      refine Ev.step (f := fun k => (spec_Join.f k (l.map ruleText) (⟨#[32]⟩ : ByteArray)).bind fun t => some t) (fun k => ?_) (Ev.bind (joinS_val _ _ (by rw [List.length_map]; omega) (by decide) (texts_small l)) (Ev.now _))
      simp only [spec_RulesText.l0]
      rw [if_neg (by omega)]
    | cons x rest ih =>
      intro i h
      obtain ⟨hi, hxi, hd⟩ := drop_cons (d := z48) h
      have hlen : ((l.take i).map ruleText).length < 8796093022208 := by rw [List.length_map, List.length_take]; omega
      refine Ev.step (f := fun k => (spec_RuleText.f k x.f0 x.f1).bind fun t => if t.toList = ([] : List UInt8) then some (⟨#[]⟩ : ByteArray) else (spec_RuleText.f k x.f0 x.f1).bind fun t2 => spec_RulesText.l0 k l ((l.take i).map ruleText ++ [t2]) ((i + 1 : Nat) : Int)) (fun k => ?_) ?_
      · simp only [spec_RulesText.l0]
        rw [if_pos (by omega), if_pos (by omega), rdR, hxi, wrap_succ hi (by omega)]
        simp only [if_pos hlen]
      · refine Ev.bind (ruleTextS_val x.f0 x.f1) ?_
        rw [List.all_cons]
        cases ha : anyR x with
        | false =>
          rw [Bool.false_and, if_neg (by decide)]
          exact Ev.congr (fun k => by rw [if_pos ((ruleText_none x).2 ha)]) (Ev.now _)
        | true =>
          rw [Bool.true_and]
          refine Ev.congr (fun k => by rw [if_neg (fun e => by rw [(ruleText_none x).1 e] at ha; cases ha)]) ?_
          refine Ev.bind (ruleTextS_val x.f0 x.f1) ?_
          have := ih (i + 1) hd
          rw [take_one h, List.map_append] at this
          exact this
  exact key l 0 rfl
theorem rtI_val (l : List IR) (hl : l.length ≤ 1048576) : Ev (fun k => impl_RulesText.f k l) (rtV l) := by
  unfold impl_RulesText.f rtV
  by_cases hz : l.length = 0
  · rw [if_pos hz]
    exact Ev.congr (fun k => by rw [if_pos (by omega)]) (Ev.now _)
  rw [if_neg hz]
  refine Ev.congr (fun k => by rw [if_neg (by omega)]) ?_
  unfold impl_areAnyRules.f
  simp only [Option.bind_some]
  cases ha : l.all anyR with
  | false =>
    rw [if_neg (by decide)]
    exact Ev.congr (fun k => by rw [if_neg (by decide)]) (Ev.now _)
  | true =>
    rw [if_pos rfl]
    refine Ev.congr (fun k => by rw [if_pos rfl]) ?_
    have key : ∀ (rest : List IR) (i : Nat), l.drop i = rest → Ev (fun k => impl_RulesText.l0 k ((l.take i).map ruleText) l (l.length : Int) (i : Int)) (jV (l.map ruleText) ⟨#[32]⟩) := by
      intro rest
      induction rest with
      | nil =>
        intro i h
        have hi := drop_nil h
        rw [List.take_of_length_le hi]
        refine Ev.step (f := fun k => (impl_Join.f k (l.map ruleText) (⟨#[32]⟩ : ByteArray)).bind fun t => some t) (fun k => ?_) (Ev.bind (joinI_val _ _ (by rw [List.length_map]; omega) (by rw [List.length_map]; omega) rfl (texts_small l)) (Ev.now _))
        simp only [impl_RulesText.l0]
        rw [if_neg (by omega)]
      | cons x rest ih =>
        intro i h
        obtain ⟨hi, hxi, hd⟩ := drop_cons (d := z48) h
        have hlen : ((l.take i).map ruleText).length < 8796093022208 := by rw [List.length_map, List.length_take]; omega
        refine Ev.step (f := fun k => (impl_RuleText.f k x.f0 x.f1).bind fun t2 => impl_RulesText.l0 k ((l.take i).map ruleText ++ [t2]) l (l.length : Int) ((i + 1 : Nat) : Int)) (fun k => ?_) ?_
        · simp only [impl_RulesText.l0]
          rw [if_pos (by omega), if_pos (by omega), if_pos (by omega), rdR, hxi, wrap_succ hi (by omega)]
          simp only [if_pos hlen]
        · refine Ev.bind (ruleTextI_val x.f0 x.f1) ?_
          have := ih (i + 1) hd
          rw [take_one h, List.map_append] at this
          exact this
    exact key l 0 rfl
theorem clofS_ex (n : Int) (l : List Int) (hl : l.length ≤ 1048576) (s : Int) : ∃ v : Int, Ev (fun k => spec_ClosureOf.f k n l s) v := by
  cases hc : ctxB n l with
  | false =>
    refine ⟨0, ?_⟩
    unfold spec_ClosureOf.f
    refine Ev.bind (ctxS_val n l (by omega)) ?_
    rw [hc]
    exact Ev.congr (fun k => by rw [if_neg (by decide)]) (Ev.now _)
  | true =>
    cases hs : isSetB n s with
    | false =>
      refine ⟨0, ?_⟩
      unfold spec_ClosureOf.f
      refine Ev.bind (ctxS_val n l (by omega)) ?_
      rw [hc]
      exact Ev.congr (fun k => by rw [if_pos rfl, specSet_val, hs, Option.bind_some, if_neg (by decide)]) (Ev.now _)
    | true =>
      have hc2 := hc
      obtain ⟨m, R, rfl, hm, rfl, hR, hb⟩ := ctxB_nat hc2
      obtain ⟨m', a, _, e, ha, rfl⟩ := isSetB_nat hs
      have e := Int.natCast_inj.1 e
      subst e
      exact ⟨_, clofS_val hm hR hb hc ha⟩
theorem holds_ex (b : List Int) (hb : b.length ≤ 1048576) : ∃ v : Int × List Int × Int × Int, Ev (fun k => spec_DrawHoldsIn.f k b) v ∧ v.2.1.length ≤ 9 := by
  obtain ⟨h1, e1⟩ := new_ex b hb
  obtain ⟨⟨n, l, i2, h2⟩, e2, hl, k2, _⟩ := bent3_ex b hb 0 h1 (by decide)
  dsimp only at hl k2
  obtain ⟨t, et⟩ : ∃ t, spec_l1Min.f n 6 = some t := by unfold spec_l1Min.f; split <;> exact ⟨_, rfl⟩
  obtain ⟨u, eu⟩ : ∃ u, spec_l1Max.f 0 t = some u := by unfold spec_l1Max.f; split <;> exact ⟨_, rfl⟩
  obtain ⟨x, y, i3, h3, e3, k3⟩ := make9_ex b hb i2 h2 k2 u
  obtain ⟨o, i4, h4, e4, k4⟩ := once_ex b hb i3 h3 k3 3
  have go : ∀ w, Ev (fun k => if o = true then ((spec_ClosureOf.f k n l x).bind fun t1174 => (some (n, l, x, t1174))) else (some (n, l, x, y))) w → Ev (fun k => spec_DrawHoldsIn.f k b) w := by
    intro w hw
    unfold spec_DrawHoldsIn.f
    refine Ev.bind e1 (Ev.bind e2 ?_)
    dsimp only
    rw [et]
    simp only [Option.bind_some]
    rw [eu]
    simp only [Option.bind_some]
    rw [e3]
    simp only [Option.bind_some]
    rw [e4]
    exact hw
  cases o with
  | true =>
    obtain ⟨v, hv⟩ := clofS_ex n l (by omega) x
    exact ⟨(n, l, x, v), go _ (Ev.congr (fun k => by rw [if_pos rfl]) (Ev.bind hv (Ev.now _))), hl⟩
  | false => exact ⟨(n, l, x, y), go _ (Ev.congr (fun k => by rw [if_neg (by decide)]) (Ev.now _)), hl⟩
theorem respects_ex (b : List Int) (hb : b.length ≤ 1048576) : ∃ v : Int × Int × Int, Ev (fun k => spec_DrawRespects.f k b) v := by
  obtain ⟨h1, e1⟩ := new_ex b hb
  obtain ⟨x, y, i3, h3, e3, k3⟩ := make9_ex b hb 0 h1 (by decide) 4
  obtain ⟨o, i4, h4, e4, k4⟩ := once_ex b hb i3 h3 k3 10
  have go : ∀ w, Ev (fun _ => if o = true then ((spec_l2Bent.f b i4 h4).bind fun bt1249 => ((spec_l1Below.f b bt1249.2.1 bt1249.2.2 17).bind fun bt1252 => (some (bt1249.1, y, bt1252.1)))) else ((spec_l1Below.f b i4 h4 17).bind fun bt1255 => (some (x, y, bt1255.1)))) w → Ev (fun k => spec_DrawRespects.f k b) w := by
    intro w hw
    unfold spec_DrawRespects.f
    refine Ev.bind e1 ?_
    dsimp only
    rw [e3]
    simp only [Option.bind_some]
    rw [e4]
    exact hw
  cases o with
  | true =>
    obtain ⟨z, i5, h5, e5, k5⟩ := bent2_ex b hb i4 h4 k4
    obtain ⟨u, i6, h6, e6, _, _, _⟩ := below_ex b hb i5 h5 k5 17
    refine ⟨(z, y, u), go _ (Ev.congr (fun k => ?_) (Ev.now _))⟩
    rw [if_pos rfl, e5, Option.bind_some]
    dsimp only
    rw [e6, Option.bind_some]
  | false =>
    obtain ⟨u, i6, h6, e6, _, _, _⟩ := below_ex b hb i4 h4 k4 17
    refine ⟨(x, y, u), go _ (Ev.congr (fun k => ?_) (Ev.now _))⟩
    rw [if_neg (by decide), e6, Option.bind_some]
theorem lens_le : ∀ l : List ByteArray, (∀ x ∈ l, x.size ≤ 1000) → Lib.lens (bl l) ≤ 1000 * l.length
  | [], _ => by decide
  | x :: l, h => by
    have h1 := h x List.mem_cons_self
    have h2 := lens_le l fun y hy => h y (List.mem_cons_of_mem _ hy)
    have e : Lib.lens (bl (x :: l)) = x.size + Lib.lens (bl l) := by
      unfold Lib.lens bl
      rw [List.map_cons, List.map_cons, List.sum_cons, Lib.size_eq]
    rw [e, List.length_cons]
    omega
theorem rtV_size {l : List IR} (hl : l.length ≤ 5) : (rtV l).size ≤ 10000 := by
  unfold rtV
  split
  · decide
  · rename_i h0
    split
    · unfold jV
      split
      · decide
      · have hne : 0 < (l.map ruleText).length := by rw [List.length_map]; omega
        have h1 := jn_len (l := l.map ruleText) (⟨#[32]⟩ : ByteArray) hne
        have h2 := lens_le (l.map ruleText) (texts_small l)
        rw [List.length_map] at h1 h2
        have h3 : (⟨#[32]⟩ : ByteArray).size = 1 := rfl
        rw [h3] at h1
        show (jn (l.map ruleText) (⟨#[32]⟩ : ByteArray)).toArray.size ≤ 10000
        rw [List.size_toArray, h1]
        omega
    · decide
theorem small63 : ∀ n m : Nat, n ≤ 1048576 → m ≤ 1048576 → n + m ≤ 9223372036854775807 := fun n m _ _ => by omega
abbrev turns : List ByteArray := [(⟨#[62]⟩ : ByteArray), (⟨#[32]⟩ : ByteArray), (⟨#[45]⟩ : ByteArray), (⟨#[110, 111, 110, 101]⟩ : ByteArray), (⟨#[97, 98]⟩ : ByteArray)]
theorem turns_size {z : Int} (h0 : 0 ≤ z) (h1 : z < 5) : (rdOf ByteArray.empty turns z).size ≤ 4 := by
  have h : z = 0 ∨ z = 1 ∨ z = 2 ∨ z = 3 ∨ z = 4 := by omega
  rcases h with rfl | rfl | rfl | rfl | rfl <;> decide
theorem turned_ex (b : List Int) (hb : b.length ≤ 1048576) (i h : Int) (h0 : 0 ≤ i) (t : ByteArray) (ht : t.size ≤ 10000) : ∃ v : ByteArray × Int × Int, spec_l1Turned.f b i h t turns = some v ∧ v.1.size ≤ 100000 := by
  have ew : wrap64 ((t.size : Int) + 1) = (t.size : Int) + 1 := by unfold wrap64; omega
  obtain ⟨x, i1, h1, e1, x0, x1, k1⟩ := below_ex b hb i h h0 ((t.size : Int) + 1)
  have x1 := x1 (by omega)
  obtain ⟨y, i2, h2, e2, _, _, k2⟩ := below_ex b hb i1 h1 k1 6
  have hs1 : (t.extract 0 (x : Int).toNat).size ≤ 10000 := by rw [ByteArray.size_extract]; omega
  have hs2 : (t.extract (x : Int).toNat t.size).size ≤ 10000 := by rw [ByteArray.size_extract]; omega
  unfold spec_l1Turned.f
  rw [ew, e1, Option.bind_some]
  dsimp only
  rw [e2, Option.bind_some]
  dsimp only
  by_cases c0 : y = 0
  · obtain ⟨z, i3, h3, e3, z0, z1, k3⟩ := below_ex b hb i2 h2 k2 (turns.length : Int)
    have z1 := z1 (by decide)
    have hz := turns_size z0 (show z < 5 from z1)
    have hs3 : ((t.extract 0 (x : Int).toNat) ++ rdOf ByteArray.empty turns z).size ≤ 10004 := by rw [ByteArray.size_append]; omega
    unfold spec_l1Pick.f
    rw [if_pos c0, if_pos x0, if_pos (show x ≤ (t.size : Int) by omega), e3, Option.bind_some]
    dsimp only
    rw [if_pos z0, if_pos z1, Option.bind_some]
    dsimp only
    rw [if_pos (small63 _ _ (by omega) (by omega)), if_pos (small63 _ _ (by omega) (by omega))]
    exact ⟨_, rfl, by dsimp only; rw [ByteArray.size_append]; omega⟩
  · rw [if_neg c0]
    by_cases c1 : y = 1
    · rw [if_pos c1, if_pos x0, if_pos (show x ≤ (t.size : Int) by omega)]
      exact ⟨_, rfl, by dsimp only; omega⟩
    · rw [if_neg c1]
      exact ⟨_, rfl, by dsimp only; omega⟩
theorem parse_ex (b : List Int) (hb : b.length ≤ 1048576) : ∃ t : ByteArray, Ev (fun k => spec_DrawParseRules.f k b) t ∧ t.size ≤ 100000 := by
  obtain ⟨h1, e1⟩ := new_ex b hb
  obtain ⟨⟨l, i2, h2⟩, e2, hl, k2⟩ := draw9_ex b hb 0 h1 (by decide) 4
  dsimp only at hl k2
  obtain ⟨v, ev, hv⟩ := turned_ex b hb i2 h2 k2 (rtV l) (rtV_size (by omega))
  refine ⟨v.1, ?_, hv⟩
  unfold spec_DrawParseRules.f
  refine Ev.bind e1 (Ev.bind e2 ?_)
  dsimp only
  refine Ev.bind (rtS_val l (by omega)) ?_
  rw [show ([(⟨#[62]⟩ : ByteArray), (⟨#[32]⟩ : ByteArray), (⟨#[45]⟩ : ByteArray), (⟨#[110, 111, 110, 101]⟩ : ByteArray), (⟨#[97, 98]⟩ : ByteArray)] : List ByteArray) = turns from rfl, ev]
  exact Ev.now _
theorem rulesText_ex (b : List Int) (hb : b.length ≤ 1048576) : ∃ l : List IR, Ev (fun k => spec_DrawRulesText.f k b) l ∧ l.length ≤ 5 := by
  obtain ⟨h1, e1⟩ := new_ex b hb
  obtain ⟨⟨l, i2, h2⟩, e2, hl, k2⟩ := bent9_ex b hb 0 h1 (by decide) 4
  refine ⟨l, ?_, hl⟩
  unfold spec_DrawRulesText.f
  exact Ev.bind e1 (Ev.bind e2 (Ev.now _))
theorem anyR_rest {l rest : List IR} {i : Nat} {x : IR} (h : l.drop i = x :: rest) (ha : l.all anyR = true) : anyR x = true :=
  List.all_eq_true.1 ha x (List.mem_of_mem_drop (i := i) (by rw [h]; exact List.mem_cons_self))
theorem stepI_loop (l : List IR) (hl : l.length ≤ 9223372036854775807) (ha : l.all anyR = true) (s : Nat) (hs : s < 256) : ∀ (rest : List IR) (i out : Nat), l.drop i = rest → out < 256 →
    Ev (fun k => impl_OneStep.l0 k (s : Int) (out : Int) l (l.length : Int) (i : Int)) (((toR rest).foldl (fun o r => if sub r.1 s then o ||| r.2 else o) out : Nat) : Int) := by
  intro rest
  induction rest with
  | nil =>
    intro i out h ho
    have := drop_nil h
    refine Ev.step (f := fun _ => some (out : Int)) (fun k => ?_) (Ev.now _)
    simp only [impl_OneStep.l0]
    rw [if_neg (by omega)]
  | cons x rest ih =>
    intro i out h ho
    obtain ⟨hi, hx, hr⟩ := drop_cons (d := z48) h
    obtain ⟨e1, e2, h1, h2⟩ := anyR_nat (anyR_rest h ha)
    rw [show toR (x :: rest) = toP x :: toR rest from rfl, List.foldl_cons]
    cases hc : sub (toP x).1 s with
    | true =>
      refine Ev.step (f := fun k => impl_OneStep.l0 k (s : Int) ((out ||| (toP x).2 : Nat) : Int) l (l.length : Int) ((i + 1 : Nat) : Int)) (fun k => ?_) (ih (i + 1) (out ||| (toP x).2) hr (or256 ho h2))
      simp only [impl_OneStep.l0]
      rw [if_pos (by omega), if_pos (by omega), if_pos (by omega), rdR, hx, e1, e2, inSet_val h1 hs, hc, Option.bind_some, if_pos rfl, or_nat (by omega) (by omega), wrap_succ hi hl]
    | false =>
      refine Ev.step (f := fun k => impl_OneStep.l0 k (s : Int) (out : Int) l (l.length : Int) ((i + 1 : Nat) : Int)) (fun k => ?_) (ih (i + 1) out hr ho)
      simp only [impl_OneStep.l0]
      rw [if_pos (by omega), if_pos (by omega), if_pos (by omega), rdR, hx, e1, inSet_val h1 hs, hc, Option.bind_some, if_neg (by decide), wrap_succ hi hl]
def stepV (l : List IR) (s : Int) : Int := if l.all anyR && isAny s then ((step (toR l) s.toNat : Nat) : Int) else s
theorem oneI_val (l : List IR) (hl : l.length ≤ 9223372036854775807) (s : Int) : Ev (fun k => impl_OneStep.f k l s) (stepV l s) := by
  unfold impl_OneStep.f impl_areAnyRules.f stepV
  rw [any_val]
  simp only [Option.bind_some]
  cases hs : isAny s with
  | false =>
    rw [Bool.and_false]
    refine Ev.congr (fun k => ?_) (Ev.step (f := fun _ => some s) (g := fun k => impl_OneStep.j0 k l s true) (fun k => ?_) (Ev.now s))
    · rw [if_neg (by decide)]
    · simp only [impl_OneStep.j0, if_true]
  | true =>
    obtain ⟨n, hn, rfl⟩ := isAny_nat hs
    cases ha : l.all anyR with
    | false =>
      refine Ev.congr (fun k => ?_) (Ev.step (f := fun _ => some (n : Int)) (g := fun k => impl_OneStep.j0 k l (n : Int) true) (fun k => ?_) (Ev.now _))
      · rw [if_pos rfl]; rfl
      · simp only [impl_OneStep.j0, if_true]
    | true =>
      rw [Bool.and_true, if_pos rfl, Int.toNat_natCast]
      refine Ev.congr (fun k => ?_) (Ev.step (g := fun k => impl_OneStep.j0 k l (n : Int) false) (fun k => ?_) (stepI_loop l hl ha n hn l 0 n rfl hn))
      · rw [if_pos rfl]; rfl
      · simp only [impl_OneStep.j0]; rw [if_neg (by decide)]; rfl
theorem clS_inner (l : List IR) (hl : l.length ≤ 9223372036854775807) (ha : l.all anyR = true) (res : Int) : ∀ (rest : List IR) (i s : Nat) (ch : Bool), l.drop i = rest → s < 256 →
    Ev (fun k => spec_l9Closed.l0 k l (((sweep (toR rest) (s, ch)).1 : Nat) : Int) (sweep (toR rest) (s, ch)).2) res → Ev (fun k => spec_l9Closed.l1 k l (s : Int) ch (i : Int)) res := by
  intro rest
  induction rest with
  | nil =>
    intro i s ch h hs he
    have := drop_nil h
    refine Ev.step (fun k => ?_) he
    simp only [spec_l9Closed.l1]
    rw [if_neg (by omega)]
    rfl
  | cons x rest ih =>
    intro i s ch h hs he
    obtain ⟨hi, hx, hr⟩ := drop_cons (d := z48) h
    obtain ⟨e1, e2, h1, h2⟩ := anyR_nat (anyR_rest h ha)
    rw [show sweep (toR (x :: rest)) (s, ch) = sweep (toR rest) (if sub (toP x).1 s && !sub (toP x).2 s then (s ||| (toP x).2, true) else (s, ch)) from rfl] at he
    cases hc : sub (toP x).1 s with
    | false =>
      rw [hc, Bool.false_and, if_neg (by decide)] at he
      refine Ev.step (fun k => ?_) (ih (i + 1) s ch hr hs he)
      simp only [spec_l9Closed.l1]
      rw [if_pos (by omega), if_pos (by omega), rdR, hx, e1, if_neg (by rw [and_eq_sub h1 hs, hc]; decide), wrap_succ hi hl]
    | true =>
      cases hd : sub (toP x).2 s with
      | true =>
        rw [hc, hd, if_neg (by decide)] at he
        refine Ev.step (fun k => ?_) (ih (i + 1) s ch hr hs he)
        simp only [spec_l9Closed.l1]
        rw [if_pos (by omega), if_pos (by omega), rdR, hx, e1, e2, if_pos ((and_eq_sub h1 hs).2 hc), if_pos ((and_eq_sub h2 hs).2 hd), wrap_succ hi hl]
      | false =>
        rw [hc, hd, if_pos (by decide)] at he
        refine Ev.step (fun k => ?_) (ih (i + 1) (s ||| (toP x).2) true hr (or256 hs h2) he)
        simp only [spec_l9Closed.l1]
        rw [if_pos (by omega), if_pos (by omega), rdR, hx, e1, e2, if_pos ((and_eq_sub h1 hs).2 hc), if_neg (by rw [and_eq_sub h2 hs, hd]; decide), or_nat (by omega) (by omega), wrap_succ hi hl]
theorem clS_loop (l : List IR) (hl : l.length ≤ 9223372036854775807) (ha : l.all anyR = true) : ∀ (d s : Nat), s < 256 → 256 - s ≤ d → Ev (fun k => spec_l9Closed.l0 k l (s : Int) true) ((clo (toR l) s : Nat) : Int) := by
  have hR := toR_small ha
  intro d
  induction d with
  | zero => intro s hs hd; omega
  | succ d ih =>
    intro s hs hd
    refine Ev.step (g := fun k => spec_l9Closed.l0 k l (s : Int) true) (f := fun k => spec_l9Closed.l1 k l (s : Int) false ((0 : Nat) : Int)) (fun k => by simp only [spec_l9Closed.l0, if_true]; rfl) ?_
    refine clS_inner l hl ha _ l 0 s false rfl hs ?_
    obtain ⟨a, b, c, e, f⟩ := sweep_spec (toR l) (s, false)
    have hlt := b (fun r hr => (hR r hr).2) hs
    generalize hq : sweep (toR l) (s, false) = q at *
    obtain ⟨s', ch'⟩ := q
    cases ch' with
    | false =>
      obtain ⟨_, h2, h3⟩ := e rfl
      have h2' : s' = s := h2
      subst h2'
      rw [(clo_fix hR hs).2 h3]
      exact Ev.step (f := fun _ => some (s' : Int)) (fun k => by simp only [spec_l9Closed.l0]; rw [if_neg (by decide)]) (Ev.now _)
    | true =>
      have hgt : s < s' := f rfl rfl
      have := ih s' hlt (by omega)
      rwa [clo_of_between hR hs hlt a c] at this
theorem clS_val (l : List IR) (hl : l.length ≤ 9223372036854775807) (ha : l.all anyR = true) (s : Nat) (hs : s < 256) : Ev (fun k => spec_l9Closed.f k l (s : Int)) ((clo (toR l) s : Nat) : Int) := clS_loop l hl ha _ s hs (Nat.le_refl _)
def cloV (l : List IR) (s : Int) : Int := if l.all anyR && isAny s then ((clo (toR l) s.toNat : Nat) : Int) else s
theorem closedS_val (l : List IR) (hl : l.length ≤ 9223372036854775807) (s : Int) : Ev (fun k => spec_ClosedBy.f k l s) (cloV l s) := by
  unfold spec_ClosedBy.f cloV
  rw [specSet_val, isSetB_8]
  refine Ev.bind (sets_val l hl) ?_
  cases ha : l.all anyR with
  | false => exact Ev.congr (fun k => by rw [if_neg (by decide)]; rfl) (Ev.now _)
  | true =>
    cases hs : isAny s with
    | false => exact Ev.congr (fun k => by rw [if_pos rfl, Option.bind_some, if_neg (by decide)]; rfl) (Ev.now _)
    | true =>
      obtain ⟨n, hn, rfl⟩ := isAny_nat hs
      rw [Int.toNat_natCast]
      refine Ev.congr (fun k => by rw [if_pos rfl, Option.bind_some, if_pos rfl]) ?_
      exact Ev.bind (clS_val l hl ha n hn) (Ev.now _)
theorem stepV_nat {l : List IR} (ha : l.all anyR = true) {s : Nat} (hs : s < 256) : stepV l (s : Int) = ((step (toR l) s : Nat) : Int) := by
  unfold stepV
  rw [ha, show isAny (s : Int) = true from decide_eq_true (by omega), if_pos (by decide), Int.toNat_natCast]
theorem clI_loop (l : List IR) (hl : l.length ≤ 9223372036854775807) (ha : l.all anyR = true) : ∀ (d s : Nat), s < 256 → 256 - s ≤ d → Ev (fun k => impl_ClosedBy.l0 k l (s : Int) ((step (toR l) s : Nat) : Int)) ((clo (toR l) s : Nat) : Int) := by
  have hR := toR_small ha
  intro d
  induction d with
  | zero => intro s hs hd; omega
  | succ d ih =>
    intro s hs hd
    have hlt := step_lt hR hs
    by_cases e : step (toR l) s = s
    · refine Ev.step (f := fun _ => some (s : Int)) (fun k => ?_) ?_
      · simp only [impl_ClosedBy.l0]; rw [if_pos (by rw [e])]
      · rw [(clo_fix hR hs).2 (step_fix.1 e)]; exact Ev.now _
    · have hgt : s < step (toR l) s := by have := sub_le (sub_step (toR l) s); omega
      refine Ev.step (f := fun k => (impl_OneStep.f k l ((step (toR l) s : Nat) : Int)).bind fun t => impl_ClosedBy.l0 k l ((step (toR l) s : Nat) : Int) t) (fun k => ?_) ?_
      · simp only [impl_ClosedBy.l0]; rw [if_neg (by omega)]
      · refine Ev.bind (oneI_val l hl _) ?_
        rw [stepV_nat ha hlt, ← clo_step hR hs]
        exact ih _ hlt (by omega)
theorem closedI_val (l : List IR) (hl : l.length ≤ 9223372036854775807) (s : Int) : Ev (fun k => impl_ClosedBy.f k l s) (cloV l s) := by
  unfold impl_ClosedBy.f impl_areAnyRules.f cloV
  rw [any_val]
  simp only [Option.bind_some]
  cases hs : isAny s with
  | false =>
    rw [Bool.and_false]
    refine Ev.congr (fun k => ?_) (Ev.step (f := fun _ => some s) (g := fun k => impl_ClosedBy.j0 k l s true) (fun k => ?_) (Ev.now s))
    · rw [if_neg (by decide)]
    · simp only [impl_ClosedBy.j0, if_true]
  | true =>
    obtain ⟨n, hn, rfl⟩ := isAny_nat hs
    cases ha : l.all anyR with
    | false =>
      refine Ev.congr (fun k => ?_) (Ev.step (f := fun _ => some (n : Int)) (g := fun k => impl_ClosedBy.j0 k l (n : Int) true) (fun k => ?_) (Ev.now _))
      · rw [if_pos rfl]; rfl
      · simp only [impl_ClosedBy.j0, if_true]
    | true =>
      rw [Bool.and_true, if_pos rfl, Int.toNat_natCast]
      refine Ev.congr (fun k => ?_) (Ev.step (g := fun k => impl_ClosedBy.j0 k l (n : Int) false) (f := fun k => (impl_OneStep.f k l (n : Int)).bind fun t => impl_ClosedBy.l0 k l (n : Int) t) (fun k => ?_) ?_)
      · rw [if_pos rfl]; rfl
      · simp only [impl_ClosedBy.j0]; rw [if_neg (by decide)]
      · refine Ev.bind (oneI_val l hl _) ?_
        rw [stepV_nat ha hn]
        exact clI_loop l hl ha _ n hn (Nat.le_refl _)
def folV (l : List IR) (r : IR) : Bool := l.all anyR && (anyR r && sub (toP r).2 (clo (toR l) (toP r).1))
theorem cloV_nat {l : List IR} (ha : l.all anyR = true) {s : Nat} (hs : s < 256) : cloV l (s : Int) = ((clo (toR l) s : Nat) : Int) := by
  unfold cloV
  rw [ha, show isAny (s : Int) = true from decide_eq_true (by omega), if_pos (by decide), Int.toNat_natCast]
theorem folS_val (l : List IR) (hl : l.length ≤ 9223372036854775807) (a b : Int) : Ev (fun k => spec_Follows.f k l a b) (folV l ⟨a, b⟩) := by
  unfold spec_Follows.f folV
  rw [rule_val, isSetB_8, isSetB_8, show (isAny a && isAny b) = anyR ⟨a, b⟩ from rfl]
  refine Ev.bind (sets_val l hl) ?_
  cases ha : l.all anyR with
  | false => exact Ev.congr (fun k => by rw [if_neg (by decide)]; rfl) (Ev.now _)
  | true =>
    cases hr : anyR ⟨a, b⟩ with
    | false => exact Ev.congr (fun k => by rw [if_pos rfl, Option.bind_some, if_neg (by decide)]; rfl) (Ev.now _)
    | true =>
      obtain ⟨h1, h2, h3, h4⟩ := anyR_nat hr
      have e1 : a = ((toP ⟨a, b⟩).1 : Int) := h1
      have e2 : b = ((toP ⟨a, b⟩).2 : Int) := h2
      generalize (toP ⟨a, b⟩).1 = x at *
      generalize (toP ⟨a, b⟩).2 = y at *
      subst e1 e2
      refine Ev.congr (fun k => by rw [if_pos rfl, Option.bind_some, if_pos rfl]) ?_
      refine Ev.bind (clS_val l hl ha x h3) ?_
      refine Ev.congr (fun k => congrArg some ?_) (Ev.now _)
      have hlt := (clo_spec (toR_small ha) h3).1
      rw [and_nat (by omega) (by omega), Nat.and_comm, ← and_nat (by omega) (by omega), Bool.eq_iff_iff, beq_iff_eq, and_eq_sub h4 hlt]
      simp
theorem folI_val (l : List IR) (hl : l.length ≤ 9223372036854775807) (a b : Int) : Ev (fun k => impl_Follows.f k l a b) (folV l ⟨a, b⟩) := by
  unfold impl_Follows.f impl_areAnyRules.f folV
  simp only [Option.bind_some]
  rw [show ([(⟨a, b⟩ : IR)].all anyR) = anyR ⟨a, b⟩ from by simp]
  cases ha : l.all anyR with
  | false => exact Ev.congr (fun k => by rw [if_neg (by decide)]; rfl) (Ev.now _)
  | true =>
    cases hr : anyR ⟨a, b⟩ with
    | false => exact Ev.congr (fun k => by rw [if_pos rfl, if_neg (by decide)]; rfl) (Ev.now _)
    | true =>
      obtain ⟨h1, h2, h3, h4⟩ := anyR_nat hr
      have e1 : a = ((toP ⟨a, b⟩).1 : Int) := h1
      have e2 : b = ((toP ⟨a, b⟩).2 : Int) := h2
      generalize (toP ⟨a, b⟩).1 = x at *
      generalize (toP ⟨a, b⟩).2 = y at *
      subst e1 e2
      refine Ev.congr (fun k => by rw [if_pos rfl, if_pos rfl]) ?_
      refine Ev.bind (closedI_val l hl _) ?_
      have hlt := (clo_spec (toR_small ha) h3).1
      rw [cloV_nat ha h3]
      exact Ev.congr (fun k => by rw [inSet_val h4 hlt, Option.bind_some]; rfl) (Ev.now _)
theorem follows_ex (b : List Int) (hb : b.length ≤ 1048576) : ∃ v : List IR × Int × Int, Ev (fun k => spec_DrawFollows.f k b) v ∧ v.1.length ≤ 5 := by
  obtain ⟨h1, e1⟩ := new_ex b hb
  obtain ⟨⟨l, i2, h2⟩, e2, hl, k2⟩ := bent9_ex b hb 0 h1 (by decide) 5
  dsimp only at hl k2
  obtain ⟨x, y, i3, h3, e3, k3⟩ := make9_ex b hb i2 h2 k2 5
  obtain ⟨o, i4, h4, e4, k4⟩ := once_ex b hb i3 h3 k3 3
  have go : ∀ w, Ev (fun k => if o = true then ((spec_ClosedBy.f k l x).bind fun t => (some (l, x, t))) else (some (l, x, y))) w → Ev (fun k => spec_DrawFollows.f k b) w := by
    intro w hw
    unfold spec_DrawFollows.f
    refine Ev.bind e1 (Ev.bind e2 ?_)
    dsimp only
    rw [e3]
    simp only [Option.bind_some]
    rw [e4]
    exact hw
  cases o with
  | true => exact ⟨(l, x, cloV l x), go _ (Ev.congr (fun k => by rw [if_pos rfl]) (Ev.bind (closedS_val l (by omega) x) (Ev.now _))), hl⟩
  | false => exact ⟨(l, x, y), go _ (Ev.congr (fun k => by rw [if_neg (by decide)]) (Ev.now _)), hl⟩
abbrev Bs := List UInt8
def mkB (l : Bs) : ByteArray := ⟨l.toArray⟩
theorem mkB_data (t : ByteArray) : mkB t.data.toList = t := by cases t; rfl
theorem data_mkB (l : Bs) : (mkB l).data.toList = l := rfl
theorem toList_iff (a b : ByteArray) : a.toList = b.toList ↔ a.data.toList = b.data.toList := by rw [Lib.toList_data, Lib.toList_data]
theorem size_data (t : ByteArray) : t.size = t.data.toList.length := by rw [Array.length_toList]; rfl
theorem bt_list (t : ByteArray) (i : Nat) {x : UInt8} {rest : Bs} (h : t.data.toList.drop i = x :: rest) : i < t.size ∧ bt t (i : Int) = (x.toNat : Int) ∧ t.data.toList.drop (i + 1) = rest := by
  obtain ⟨hi, hx, hr⟩ := drop_cons (d := (0 : UInt8)) h
  rw [← size_data] at hi
  refine ⟨hi, ?_, hr⟩
  unfold bt
  rw [Int.toNat_natCast, dif_pos hi]
  rw [List.getD_eq_getElem?_getD, List.getElem?_eq_getElem (by rw [← size_data]; exact hi)] at hx
  rw [← hx]
  rfl
def tx (s : Nat) : Bs := if s = 0 then [45] else ((List.range 8).filter fun (e : Nat) => s.testBit e).map fun e => UInt8.ofNat (97 + e)
theorem tx_all : ((List.range 256).all fun s => (setText ((s : Nat) : Int)).data.toList == tx s) = true := by decide +kernel
theorem setText_tx {s : Nat} (h : s < 256) : (setText (s : Int)).data.toList = tx s := by
  have := List.all_eq_true.1 tx_all s (List.mem_range.2 h)
  exact eq_of_beq this
def psB (l : Bs) : Option Nat := (List.range' 0 256).find? fun s => decide (tx s = l)
def psO : Option Nat → Int × Bool
  | some s => (s, true)
  | none => (0, false)
def psV (t : ByteArray) : Int × Bool := psO (psB t.data.toList)
theorem psI_loop (t : ByteArray) : ∀ (d i : Nat), i + d = 256 → Ev (fun k => impl_ParseSet.l0 k t (i : Int)) (psO ((List.range' i d).find? fun s => decide (tx s = t.data.toList))) := by
  intro d
  induction d with
  | zero =>
    intro i h
    refine Ev.step (f := fun _ => some (0, false)) (fun k => ?_) (Ev.now _)
    simp only [impl_ParseSet.l0]
    rw [if_neg (by omega)]
  | succ d ih =>
    intro i h
    rw [List.range'_succ, List.find?_cons]
    refine Ev.step (f := fun k => (impl_SetText.f k (i : Int)).bind fun t1 => if t1.toList = t.toList then some ((i : Int), true) else impl_ParseSet.l0 k t ((i + 1 : Nat) : Int)) (fun k => ?_) ?_
    · simp only [impl_ParseSet.l0]
      rw [if_pos (by omega), show wrap64 ((i : Int) + 1) = ((i + 1 : Nat) : Int) from by unfold wrap64; omega]
    · refine Ev.bind (setTextI_val (i : Int)) ?_
      have hiff := toList_iff (setText (i : Int)) t
      rw [setText_tx (show i < 256 by omega)] at hiff
      by_cases e : tx i = t.data.toList
      · rw [decide_eq_true e]
        exact Ev.congr (fun k => if_pos (hiff.2 e)) (Ev.now _)
      · rw [decide_eq_false e]
        exact Ev.congr (fun k => if_neg (fun h => e (hiff.1 h))) (ih (i + 1) (by omega))
theorem psI_val (t : ByteArray) : Ev (fun k => impl_ParseSet.f k t) (psV t) := by
  unfold impl_ParseSet.f
  exact psI_loop t 256 0 rfl
def psF : Bs → Nat → Option Nat
  | [], s => some s
  | b :: l, s => if 97 ≤ b.toNat ∧ b.toNat ≤ 104 then psF l (s ||| 2 ^ (b.toNat - 97)) else none
theorem psF_lt : ∀ (l : Bs) (s r : Nat), s < 256 → psF l s = some r → r < 256
  | [], s, r, h, e => by rw [psF] at e; obtain rfl := Option.some.inj e; exact h
  | b :: l, s, r, h, e => by
    rw [psF] at e
    split at e
    · rename_i hb
      refine psF_lt l _ r ?_ e
      refine Nat.or_lt_two_pow (n := 8) h ?_
      exact Nat.pow_lt_pow_right (by decide) (by omega)
    · cases e
def psC (l : Bs) : Option Nat → Int × Bool
  | none => (0, false)
  | some s => if tx s = l then (s, true) else (0, false)
def psS (l : Bs) : Int × Bool := psC l (if l = [45] then some 0 else psF l 0)
theorem psS_all : ((List.range 256).all fun s => psS (tx s) == (((s : Nat) : Int), true)) = true := by decide +kernel
theorem ps_eq (l : Bs) : psS l = psO (psB l) := by
  cases h : psB l with
  | some s =>
    have h1 := List.find?_some h
    have h2 := List.mem_of_find?_eq_some h
    have e : tx s = l := by simpa using h1
    have hs : s < 256 := by have := List.mem_range'_1.1 h2; omega
    rw [← e]
    exact eq_of_beq (List.all_eq_true.1 psS_all s (List.mem_range.2 hs))
  | none =>
    have h1 := List.find?_eq_none.1 h
    have hn : ∀ s, s < 256 → ¬ tx s = l := fun s hs e => h1 s (List.mem_range'_1.2 (by omega)) (by simpa using e)
    unfold psS psC
    split
    · rfl
    · rename_i r hr
      rw [if_neg (hn r ?_)]
      · rfl
      · split at hr
        · obtain rfl := Option.some.inj hr; decide
        · exact psF_lt l 0 r (by decide) hr
theorem psS_last (t : ByteArray) {s : Nat} (hs : s < 256) : Ev (fun k => (spec_SetText.f k (s : Int)).bind fun t1 => if t1.toList = t.toList then some ((s : Int), true) else some (0, false)) (psC t.data.toList (some s)) := by
  refine Ev.bind (setTextS_val (s : Int)) ?_
  have hiff := toList_iff (setText (s : Int)) t
  rw [setText_tx hs] at hiff
  show Ev _ (if tx s = t.data.toList then ((s : Int), true) else (0, false))
  by_cases e : tx s = t.data.toList
  · rw [if_pos e]
    exact Ev.congr (fun k => if_pos (hiff.2 e)) (Ev.now _)
  · rw [if_neg e]
    exact Ev.congr (fun k => if_neg (fun h => e (hiff.1 h))) (Ev.now _)
theorem psS_loop (t : ByteArray) (ht : t.size ≤ 9223372036854775807) (hne : (t.toList != ([45] : Bs)) = true) : ∀ (rest : Bs) (i s : Nat), t.data.toList.drop i = rest → s < 256 → Ev (fun k => spec_ParseSet.l0 k t (s : Int) (i : Int)) (psC t.data.toList (psF rest s)) := by
  intro rest
  induction rest with
  | nil =>
    intro i s h hs
    have hi := drop_nil h
    rw [← size_data] at hi
    refine Ev.step (f := fun k => spec_ParseSet.j1 k t (s : Int) (i : Int) false) (fun k => ?_) ?_
    · simp only [spec_ParseSet.l0]
      rw [if_neg (by omega)]
    · refine Ev.step (fun k => ?_) (psS_last t hs)
      simp only [spec_ParseSet.j1]
      rw [if_neg (by decide)]
  | cons b rest ih =>
    intro i s h hs
    obtain ⟨hi, hb, hr⟩ := bt_list t i h
    refine Ev.step (f := fun k => spec_ParseSet.j1 k t (s : Int) (i : Int) true) (fun k => ?_) ?_
    · simp only [spec_ParseSet.l0]
      rw [if_pos (by omega), hne]
    · rw [psF]
      by_cases hc : 97 ≤ b.toNat ∧ b.toNat ≤ 104
      · rw [if_pos hc]
        refine Ev.step (fun k => ?_) (ih (i + 1) (s ||| 2 ^ (b.toNat - 97)) hr ?_)
        · simp only [spec_ParseSet.j1]
          rw [if_true, if_pos (by omega), if_pos (by omega), hb, if_neg (by omega), if_neg (by omega), show (((b.toNat : Int) - 97) % 256) = ((b.toNat - 97 : Nat) : Int) from by omega, or_bit hs (by omega), show wrap64 ((i : Int) + 1) = ((i + 1 : Nat) : Int) from by unfold wrap64; omega]
        · exact Nat.or_lt_two_pow (n := 8) hs (Nat.pow_lt_pow_right (by decide) (by omega))
      · rw [if_neg hc]
        refine Ev.step (f := fun _ => some (0, false)) (fun k => ?_) (Ev.now _)
        simp only [spec_ParseSet.j1]
        rw [if_true, if_pos (by omega), if_pos (by omega), hb]
        by_cases h97 : (b.toNat : Int) < 97
        · rw [if_pos h97]
        · rw [if_neg h97, if_pos (by omega)]
theorem psS_val (t : ByteArray) (ht : t.size ≤ 9223372036854775807) : Ev (fun k => spec_ParseSet.f k t) (psV t) := by
  unfold spec_ParseSet.f psV
  rw [← ps_eq]
  unfold psS
  by_cases h : t.data.toList = [45]
  · rw [if_pos h]
    have hb : (t.toList != ([45] : Bs)) = false := by rw [Lib.toList_data, h]; rfl
    refine Ev.step (f := fun k => spec_ParseSet.j1 k t 0 0 false) (fun k => ?_) ?_
    · simp only [spec_ParseSet.l0]
      rw [hb]
      split <;> rfl
    · refine Ev.step (fun k => ?_) (psS_last t (s := 0) (by decide))
      simp only [spec_ParseSet.j1]
      rw [if_neg (by decide)]
      rfl
  · rw [if_neg h]
    exact psS_loop t ht (by rw [Lib.toList_data]; simpa using h) t.data.toList 0 0 rfl (by decide)
def pre (p : Bs) : List Bs → List Bs
  | [] => [p]
  | x :: xs => (p ++ x) :: xs
def splL (c : UInt8) : Bs → List Bs
  | [] => [[]]
  | b :: l => if b = c then [] :: splL c l else pre [b] (splL c l)
theorem pre_pre (p q : Bs) (x : List Bs) : pre p (pre q x) = pre (p ++ q) x := by
  cases x with
  | nil => rfl
  | cons a x => show (p ++ (q ++ a)) :: x = (p ++ q ++ a) :: x; rw [List.append_assoc]
theorem splL_ne (c : UInt8) : ∀ l, splL c l ≠ []
  | [] => by simp [splL]
  | b :: l => by
    rw [splL]
    split
    · simp
    · unfold pre; split <;> simp
theorem pre_nil {x : List Bs} (h : x ≠ []) : pre [] x = x := by
  cases x with
  | nil => exact absurd rfl h
  | cons a x => rfl
theorem extract_mk (t : ByteArray) (a b : Nat) : t.extract a b = mkB ((t.data.toList.drop a).take (b - a)) := by
  rw [← mkB_data (t.extract a b)]
  refine congrArg mkB ?_
  rw [ByteArray.data_extract, Array.toList_extract]
theorem take_drop_succ (L : Bs) (a i : Nat) {x : UInt8} {rest : Bs} (h : L.drop i = x :: rest) (ha : a ≤ i) : (L.drop a).take (i + 1 - a) = (L.drop a).take (i - a) ++ [x] := by
  obtain ⟨hi, hx, _⟩ := drop_cons (d := (0 : UInt8)) h
  rw [show i + 1 - a = (i - a) + 1 from by omega, List.take_add_one, List.getElem?_drop, show a + (i - a) = i from by omega, List.getElem?_eq_getElem hi]
  rw [List.getD_eq_getElem?_getD, List.getElem?_eq_getElem hi] at hx
  simp only [Option.getD_some] at hx
  rw [hx]
  rfl
theorem spl_loop (t : ByteArray) (ht : t.size ≤ 1048576) (c : UInt8) : ∀ (rest : Bs) (i a : Nat) (out : List ByteArray), t.data.toList.drop i = rest → a ≤ i → i ≤ t.size → out.length ≤ i →
    Ev (fun k => spec_SplitByte.l0 k t (c.toNat : Int) out (a : Int) (i : Int)) (out ++ (pre ((t.data.toList.drop a).take (i - a)) (splL c rest)).map mkB) := by
  intro rest
  induction rest with
  | nil =>
    intro i a out h ha hi ho
    have hn := drop_nil h
    rw [← size_data] at hn
    have e : i = t.size := by omega
    refine Ev.step (f := fun k => spec_SplitByte.l0 k t (c.toNat : Int) (out ++ [t.extract a i]) ((i + 1 : Nat) : Int) ((i + 1 : Nat) : Int)) (fun k => ?_) ?_
    · simp only [spec_SplitByte.l0]
      rw [if_pos (by omega), if_pos (by omega), if_pos (by omega), if_pos (by omega), if_pos (by omega), show wrap64 ((i : Int) + 1) = ((i + 1 : Nat) : Int) from by unfold wrap64; omega, Int.toNat_natCast, Int.toNat_natCast]
    · refine Ev.step (f := fun _ => some (out ++ [t.extract a i])) (fun k => ?_) ?_
      · simp only [spec_SplitByte.l0]
        rw [if_neg (by omega)]
      · rw [extract_mk, splL, pre, List.append_nil]
        exact Ev.now _
  | cons b rest ih =>
    intro i a out h ha hi ho
    obtain ⟨hlt, hb, hr⟩ := bt_list t i h
    have hw : wrap64 ((i : Int) + 1) = ((i + 1 : Nat) : Int) := by unfold wrap64; omega
    rw [splL]
    by_cases hc : b = c
    · subst hc
      rw [if_pos rfl, pre, List.append_nil, List.map_cons, ← extract_mk]
      refine Ev.step (f := fun k => spec_SplitByte.l0 k t (b.toNat : Int) (out ++ [t.extract a i]) ((i + 1 : Nat) : Int) ((i + 1 : Nat) : Int)) (fun k => ?_) ?_
      · simp only [spec_SplitByte.l0]
        rw [if_pos (by omega), if_neg (by omega), if_pos (by omega), if_pos (by omega), hb, if_pos rfl, if_pos (by omega), if_pos (by omega), if_pos (by omega), hw, Int.toNat_natCast, Int.toNat_natCast]
      · have := ih (i + 1) (i + 1) (out ++ [t.extract a i]) hr (Nat.le_refl _) (by omega) (by rw [List.length_append, List.length_singleton]; omega)
        rw [Nat.sub_self, List.take_zero, pre_nil (splL_ne _ _), List.append_assoc] at this
        exact this
    · rw [if_neg hc, pre_pre, ← take_drop_succ t.data.toList a i h ha]
      refine Ev.step (fun k => ?_) (ih (i + 1) a out hr (by omega) (by omega) (by omega))
      simp only [spec_SplitByte.l0]
      rw [if_pos (by omega), if_neg (by omega), if_pos (by omega), if_pos (by omega), hb, if_neg (by intro e; exact hc (UInt8.toNat_inj.1 (by omega))), hw]
theorem spl_val (t : ByteArray) (ht : t.size ≤ 1048576) (c : UInt8) : Ev (fun k => spec_SplitByte.f k t (c.toNat : Int)) ((splL c t.data.toList).map mkB) := by
  unfold spec_SplitByte.f
  have := spl_loop t ht c t.data.toList 0 0 [] rfl (Nat.le_refl _) (Nat.zero_le _) (Nat.le_refl _)
  rw [List.take_zero, pre_nil (splL_ne _ _), List.nil_append] at this
  exact this
theorem index_spl (c : UInt8) : ∀ l : Bs, (Lib.indexByte l c = -1 ∧ c ∉ l ∧ splL c l = [l]) ∨ ∃ i : Nat, i < l.length ∧ Lib.indexByte l c = (i : Int) ∧ splL c l = l.take i :: splL c (l.drop (i + 1))
  | [] => Or.inl ⟨rfl, by simp, rfl⟩
  | b :: l => by
    by_cases e : b = c
    · subst e
      refine Or.inr ⟨0, by simp, by simp [Lib.indexByte], ?_⟩
      rw [splL, if_pos rfl]
      rfl
    · have hb : (b == c) = false := by simpa using e
      rcases index_spl c l with ⟨h1, h2, h3⟩ | ⟨i, hi, h1, h2⟩
      · refine Or.inl ⟨by rw [Lib.indexByte, hb, h1]; rfl, by simp [h2, Ne.symm e], ?_⟩
        rw [splL, if_neg e, h3]
        rfl
      · refine Or.inr ⟨i + 1, by simpa using hi, ?_, ?_⟩
        · rw [Lib.indexByte, hb, h1]
          have : ((i : Int) == -1) = false := by rw [beq_eq_false_iff_ne]; omega
          simp [this]
        · rw [splL, if_neg e, h2]
          rfl
theorem splL_one {c : UInt8} {l : Bs} (h : c ∉ l) : splL c l = [l] := by
  rcases index_spl c l with ⟨_, _, h3⟩ | ⟨i, hi, h1, h2⟩
  · exact h3
  · exfalso
    have : ∀ (l : Bs) (i : Nat), Lib.indexByte l c = (i : Int) → c ∈ l := by
      intro l
      induction l with
      | nil => intro i h; rw [Lib.indexByte] at h; omega
      | cons b l ih =>
        intro i h
        rw [Lib.indexByte] at h
        split at h
        · rename_i hb
          have : b = c := by simpa using hb
          rw [this]; exact List.mem_cons_self
        · split at h
          · omega
          · rename_i _ hneg
            cases i with
            | zero =>
              exfalso
              have h9 : Lib.indexByte l c = -1 := by omega
              rw [h9] at hneg
              exact hneg rfl
            | succ i => exact List.mem_cons_of_mem _ (ih i (by omega))
    exact h (this l i h1)
theorem splL_many {c : UInt8} {l : Bs} (h : c ∈ l) : 2 ≤ (splL c l).length := by
  rcases index_spl c l with ⟨_, h2, _⟩ | ⟨i, hi, h1, h2⟩
  · exact absurd h h2
  · rw [h2, List.length_cons]
    have := List.length_pos_iff.2 (splL_ne c (l.drop (i + 1)))
    omega
theorem tx_no : ((List.range 256).all fun s => !(tx s).contains 62 && !(tx s).contains 32) = true := by decide +kernel
theorem psV_no {t : ByteArray} (h : (62 : UInt8) ∈ t.data.toList) : psV t = (0, false) := by
  unfold psV
  cases hp : psB t.data.toList with
  | none => rfl
  | some s =>
    exfalso
    have h1 := List.find?_some hp
    have h2 := List.mem_range'_1.1 (List.mem_of_find?_eq_some hp)
    have e : tx s = t.data.toList := by simpa using h1
    rw [← e] at h
    have := List.all_eq_true.1 tx_no s (List.mem_range.2 (by omega))
    rw [Bool.and_eq_true] at this
    simpa [h] using this.1
def prO (a b : Int × Bool) : Int × Int × Bool := if a.2 = true ∧ b.2 = true then (a.1, b.1, true) else (0, 0, false)
def prP : List ByteArray → Int × Int × Bool
  | [a, b] => prO (psV a) (psV b)
  | _ => (0, 0, false)
def prV (t : ByteArray) : Int × Int × Bool := prP ((splL 62 t.data.toList).map mkB)
theorem mem_size {t : ByteArray} (ht : t.size ≤ 1048576) {x : Bs} (h : x.length ≤ t.data.toList.length) : (mkB x).size ≤ 9223372036854775807 := by
  rw [size_data, data_mkB]
  rw [← size_data] at h
  omega
theorem splL_le (c : UInt8) : ∀ (l x : Bs), x ∈ splL c l → x.length ≤ l.length
  | [], x, h => by simp [splL] at h; subst h; simp
  | b :: l, x, h => by
    rw [splL] at h
    split at h
    · rcases List.mem_cons.1 h with rfl | h
      · simp
      · have := splL_le c l x h
        rw [List.length_cons]; omega
    · cases hq : splL c l with
      | nil => exact absurd hq (splL_ne c l)
      | cons a q =>
        rw [hq] at h
        unfold pre at h
        rcases List.mem_cons.1 h with rfl | h
        · have := splL_le c l a (by rw [hq]; exact List.mem_cons_self)
          simp; omega
        · have := splL_le c l x (by rw [hq]; exact List.mem_cons_of_mem _ h)
          rw [List.length_cons]; omega
theorem prS_val (t : ByteArray) (ht : t.size ≤ 1048576) : Ev (fun k => spec_ParseRule.f k t) (prV t) := by
  unfold spec_ParseRule.f prV
  refine Ev.bind (spl_val t ht 62) ?_
  have hle := splL_le 62 t.data.toList
  generalize splL 62 t.data.toList = q at *
  match q with
  | [] => exact Ev.congr (fun k => if_neg (by simp)) (Ev.now _)
  | [a] => exact Ev.congr (fun k => if_neg (by simp)) (Ev.now _)
  | a :: b :: c :: q => exact Ev.congr (fun k => if_neg (by simp; omega)) (Ev.now _)
  | [a, b] =>
    have ha := mem_size ht (hle a (by simp))
    have hb := mem_size ht (hle b (by simp))
    refine Ev.congr (f := fun k => (spec_ParseSet.f k (mkB a)).bind fun x => (spec_ParseSet.f k (mkB b)).bind fun y => if x.2 = true then (if y.2 = true then some (x.1, y.1, true) else some (0, 0, false)) else some (0, 0, false)) (fun k => rfl) ?_
    refine Ev.bind (psS_val _ ha) ?_
    refine Ev.bind (psS_val _ hb) ?_
    show Ev _ (prO (psV (mkB a)) (psV (mkB b)))
    generalize psV (mkB a) = x
    generalize psV (mkB b) = y
    obtain ⟨x1, x2⟩ := x
    obtain ⟨y1, y2⟩ := y
    cases x2 <;> cases y2 <;> exact Ev.now _
theorem cut_val (t : ByteArray) (ht : t.size ≤ 1048576) : (62 ∉ t.data.toList ∧ strings_Cut.f t (⟨#[62]⟩ : ByteArray) = some (t, (⟨#[]⟩ : ByteArray), false)) ∨
    ∃ i : Nat, i < t.size ∧ splL 62 t.data.toList = t.data.toList.take i :: splL 62 (t.data.toList.drop (i + 1)) ∧ strings_Cut.f t (⟨#[62]⟩ : ByteArray) = some (mkB (t.data.toList.take i), mkB (t.data.toList.drop (i + 1)), true) := by
  unfold strings_Cut.f stringslite_Cut.f
  rw [show stringslite_Index.f t (⟨#[62]⟩ : ByteArray) = some (Lib.indexByte t.data.toList 62) from rfl, Option.bind_some]
  rcases index_spl 62 t.data.toList with ⟨h1, h2, _⟩ | ⟨i, hi, h1, h2⟩
  · refine Or.inl ⟨h2, ?_⟩
    rw [h1, if_neg (by decide)]
    rfl
  · rw [← size_data] at hi
    refine Or.inr ⟨i, hi, h2, ?_⟩
    have hw : wrap64 ((i : Int) + ((⟨#[62]⟩ : ByteArray).size : Int)) = ((i + 1 : Nat) : Int) := by
      rw [show (⟨#[62]⟩ : ByteArray).size = 1 from rfl]
      unfold wrap64
      omega
    rw [h1, if_pos (by omega), if_pos (by omega), if_pos (by omega), hw, if_pos (by omega), if_pos (by omega), Option.bind_some, Int.toNat_natCast, Int.toNat_natCast, extract_mk, extract_mk, List.drop_zero, Nat.sub_zero, List.take_of_length_le (l := t.data.toList.drop (i + 1)) (by rw [List.length_drop, ← size_data]; exact Nat.le_refl _)]
theorem prI_val (t : ByteArray) (ht : t.size ≤ 1048576) : Ev (fun k => impl_ParseRule.f k t) (prV t) := by
  unfold impl_ParseRule.f prV
  rcases cut_val t ht with ⟨h1, h2⟩ | ⟨i, hi, h1, h2⟩
  · rw [h2, splL_one h1]
    refine Ev.congr (fun k => Option.bind_some _ _) ?_
    refine Ev.bind (psI_val t) ?_
    refine Ev.bind (psI_val (⟨#[]⟩ : ByteArray)) ?_
    exact Ev.congr (fun k => if_neg (fun h => by cases h)) (Ev.now _)
  · rw [h2, h1]
    refine Ev.congr (fun k => Option.bind_some _ _) ?_
    refine Ev.bind (psI_val _) ?_
    refine Ev.bind (psI_val _) ?_
    refine Ev.congr (fun k => if_pos rfl) ?_
    have hgo : ∀ a b : Int × Bool, Ev (fun _ => if a.2 = true then (if b.2 = true then some (a.1, b.1, true) else some (0, 0, false)) else some (0, 0, false)) (prO a b) := by
      rintro ⟨x1, x2⟩ ⟨y1, y2⟩
      cases x2 <;> cases y2 <;> exact Ev.now _
    by_cases hm : (62 : UInt8) ∈ t.data.toList.drop (i + 1)
    · have hp : psV (mkB (t.data.toList.drop (i + 1))) = (0, false) := psV_no hm
      have h3 := splL_many hm
      have := hgo (psV (mkB (t.data.toList.take i))) (psV (mkB (t.data.toList.drop (i + 1))))
      have e : prO (psV (mkB (t.data.toList.take i))) (psV (mkB (t.data.toList.drop (i + 1)))) = (0, 0, false) := by rw [hp]; unfold prO; rw [if_neg (by simp)]
      rw [e] at this
      have e2 : prP ((t.data.toList.take i :: splL 62 (t.data.toList.drop (i + 1))).map mkB) = (0, 0, false) := by
        cases hq : splL 62 (t.data.toList.drop (i + 1)) with
        | nil => rfl
        | cons a q =>
          cases q with
          | nil => rw [hq] at h3; simp at h3
          | cons b q => rfl
      rw [e2]
      exact this
    · rw [splL_one hm]
      exact hgo _ _
def wordsV : List ByteArray → List IR → List IR × Bool
  | [], out => (out, true)
  | x :: rest, out => if (prV x).2.2 = true then (if (out.length : Int) ≥ 40 then ([], false) else wordsV rest (out ++ [⟨(prV x).1, (prV x).2.1⟩])) else ([], false)
abbrev noneT : List UInt8 := [110, 111, 110, 101]
def rulesV (t : ByteArray) : List IR × Bool := if t.toList = noneT then ([], true) else wordsV ((splL 32 t.data.toList).map mkB) []
theorem wordsV_len : ∀ (ws : List ByteArray) (out : List IR), out.length ≤ 40 → (wordsV ws out).1.length ≤ 40
  | [], out, h => h
  | x :: rest, out, h => by
    unfold wordsV
    split
    · split
      · exact Nat.zero_le _
      · exact wordsV_len rest _ (by rw [List.length_append, List.length_singleton]; omega)
    · exact Nat.zero_le _
theorem rulesV_len (t : ByteArray) : (rulesV t).1.length ≤ 40 := by
  unfold rulesV
  split
  · exact Nat.zero_le _
  · exact wordsV_len _ _ (Nat.zero_le _)
theorem rdW (l : List ByteArray) (i : Nat) : rdOf ByteArray.empty l (i : Int) = l.getD i ByteArray.empty := by unfold rdOf; rw [Int.toNat_natCast]
theorem rulesS_loop (t : ByteArray) (hne : ¬ t.toList = noneT) (ws : List ByteArray) (hw : ws.length ≤ 1048577) (hs : ∀ x ∈ ws, x.size ≤ 1048576) : ∀ (rest : List ByteArray) (i : Nat) (out : List IR), ws.drop i = rest → out.length ≤ 40 → Ev (fun k => spec_ParseRules.l0 k t out ws (i : Int)) (wordsV rest out) := by
  have hb : (t.toList != ([110, 111, 110, 101] : List UInt8)) = true := bne_iff_ne.2 hne
  intro rest
  induction rest with
  | nil =>
    intro i out h ho
    have := drop_nil h
    refine Ev.step (f := fun k => spec_ParseRules.j1 k t out ws (i : Int) false) (fun k => ?_) ?_
    · simp only [spec_ParseRules.l0]
      rw [if_neg (by omega)]
    · refine Ev.step (f := fun _ => some (out, true)) (fun k => ?_) (Ev.now _)
      simp only [spec_ParseRules.j1]
      rw [if_neg (by decide)]
  | cons x rest ih =>
    intro i out h ho
    obtain ⟨hi, hx, hd⟩ := drop_cons (d := ByteArray.empty) h
    have hxs : x.size ≤ 1048576 := hs x (by
      rw [← hx, List.getD_eq_getElem?_getD, List.getElem?_eq_getElem hi]
      exact List.getElem_mem _)
    refine Ev.step (f := fun k => spec_ParseRules.j1 k t out ws (i : Int) true) (fun k => ?_) ?_
    · simp only [spec_ParseRules.l0]
      rw [if_pos (by omega), hb]
    · refine Ev.step (f := fun k => (spec_ParseRule.f k x).bind fun bt => (if bt.2.2 = true then (if (out.length : Int) ≥ 40 then (some ((([] : List IR)), false)) else (if out.length < 8796093022208 then (spec_ParseRules.l0 k t (out ++ [(⟨bt.1, bt.2.1⟩ : IR)]) ws ((i + 1 : Nat) : Int)) else (none))) else (some ((([] : List IR)), false)))) (fun k => ?_) ?_
      · simp only [spec_ParseRules.j1]
        rw [if_pos (by trivial), if_pos (by omega), if_pos (by omega), rdW, hx, wrap_succ hi (by omega)]
      · refine Ev.bind (prS_val x hxs) ?_
        unfold wordsV
        by_cases h1 : (prV x).2.2 = true
        · rw [if_pos h1]
          by_cases h2 : (out.length : Int) ≥ 40
          · rw [if_pos h2]
            exact Ev.congr (fun k => by rw [if_pos h1, if_pos h2]) (Ev.now _)
          · rw [if_neg h2]
            exact Ev.congr (fun k => by rw [if_pos h1, if_neg h2, if_pos (by omega)]) (ih (i + 1) _ hd (by rw [List.length_append, List.length_singleton]; omega))
        · rw [if_neg h1]
          exact Ev.congr (fun k => by rw [if_neg h1]) (Ev.now _)
theorem rulesI_loop (ws : List ByteArray) (hw : ws.length ≤ 1048577) (hs : ∀ x ∈ ws, x.size ≤ 1048576) : ∀ (rest : List ByteArray) (i : Nat) (out : List IR), ws.drop i = rest → out.length ≤ 40 → Ev (fun k => impl_ParseRules.l0 k out ws (ws.length : Int) (i : Int)) (wordsV rest out) := by
  intro rest
  induction rest with
  | nil =>
    intro i out h ho
    have := drop_nil h
    refine Ev.step (f := fun _ => some (out, true)) (fun k => ?_) (Ev.now _)
    simp only [impl_ParseRules.l0]
    rw [if_neg (by omega)]
  | cons x rest ih =>
    intro i out h ho
    obtain ⟨hi, hx, hd⟩ := drop_cons (d := ByteArray.empty) h
    have hxs : x.size ≤ 1048576 := hs x (by
      rw [← hx, List.getD_eq_getElem?_getD, List.getElem?_eq_getElem hi]
      exact List.getElem_mem _)
    refine Ev.step (f := fun k => (impl_ParseRule.f k x).bind fun bt => (if bt.2.2 = true then (if (out.length : Int) = 40 then (some (([] : List IR), false)) else (if out.length < 8796093022208 then (impl_ParseRules.l0 k (out ++ [(⟨bt.1, bt.2.1⟩ : IR)]) ws (ws.length : Int) ((i + 1 : Nat) : Int)) else (none))) else (some (([] : List IR), false)))) (fun k => ?_) ?_
    · simp only [impl_ParseRules.l0]
      rw [if_pos (by omega), if_pos (by omega), if_pos (by omega), rdW, hx, wrap_succ hi (by omega)]
    · refine Ev.bind (prI_val x hxs) ?_
      unfold wordsV
      by_cases h1 : (prV x).2.2 = true
      · rw [if_pos h1]
        by_cases h2 : (out.length : Int) ≥ 40
        · rw [if_pos h2]
          exact Ev.congr (fun k => by rw [if_pos h1, if_pos (by omega)]) (Ev.now _)
        · rw [if_neg h2]
          exact Ev.congr (fun k => by rw [if_pos h1, if_neg (by omega), if_pos (by omega)]) (ih (i + 1) _ hd (by rw [List.length_append, List.length_singleton]; omega))
      · rw [if_neg h1]
        exact Ev.congr (fun k => by rw [if_neg h1]) (Ev.now _)
theorem indexB_one (t : ByteArray) (c : UInt8) : Lib.indexB t ⟨#[c]⟩ = Lib.indexByte t.data.toList c := Lib.index_one _ _
theorem splitB_spl (c : UInt8) : ∀ (n : Nat) (t : ByteArray), t.size ≤ n → Lib.splitB ⟨#[c]⟩ 0 (Lib.countB t ⟨#[c]⟩) t = (splL c t.data.toList).map mkB := by
  intro n
  induction n with
  | zero =>
    intro t ht
    have h0 : t.data.toList = [] := List.eq_nil_of_length_eq_zero (by rw [← size_data]; omega)
    rcases index_spl c t.data.toList with ⟨h1, _, h3⟩ | ⟨i, h1, _, _⟩
    · rw [Lib.splitB_miss _ _ _ _ (by rw [indexB_one]; exact h1), h3]
      simp [mkB_data]
    · rw [h0] at h1; simp at h1
  | succ n ih =>
    intro t ht
    rcases index_spl c t.data.toList with ⟨h1, _, h3⟩ | ⟨i, h1, h2, h3⟩
    · rw [Lib.splitB_miss _ _ _ _ (by rw [indexB_one]; exact h1), h3]
      simp [mkB_data]
    · have hi : Lib.indexB t ⟨#[c]⟩ = (i : Int) := by rw [indexB_one]; exact h2
      have hsz := size_data t
      have e1 : (⟨#[c]⟩ : ByteArray).size = 1 := rfl
      have hrest : (t.extract (i + 1) t.size).data.toList = t.data.toList.drop (i + 1) := by
        rw [extract_mk, data_mkB, List.take_of_length_le (by rw [List.length_drop]; omega)]
      rw [Lib.countB_hit t ⟨#[c]⟩ i (Nat.le_refl 1) hi, Nat.add_comm, Lib.splitB_hit _ _ _ _ i hi, e1, ih _ (by rw [size_data, hrest, List.length_drop]; omega), hrest, h3, List.map_cons]
      congr 1
      rw [extract_mk, List.drop_zero]
      simp
theorem splL_bound (c : UInt8) (t : ByteArray) (ht : t.size ≤ 1048576) : ∀ x ∈ (splL c t.data.toList).map mkB, x.size ≤ 1048576 := by
  intro x hx
  obtain ⟨y, hy, rfl⟩ := List.mem_map.1 hx
  have := splL_le c t.data.toList y hy
  rw [size_data, data_mkB]
  rw [size_data] at ht
  omega
theorem splL_length (c : UInt8) : ∀ (n : Nat) (l : Bs), l.length ≤ n → (splL c l).length ≤ n + 1 := by
  intro n
  induction n with
  | zero =>
    intro l hl
    rcases index_spl c l with ⟨_, _, h3⟩ | ⟨i, h1, _, _⟩
    · rw [h3]; exact Nat.le_refl _
    · omega
  | succ n ih =>
    intro l hl
    rcases index_spl c l with ⟨_, _, h3⟩ | ⟨i, h1, _, h3⟩
    · rw [h3]; simp
    · rw [h3, List.length_cons]
      have := ih (l.drop (i + 1)) (by rw [List.length_drop]; omega)
      omega
theorem rulesI_val (t : ByteArray) (ht : t.size ≤ 1048576) : Ev (fun k => impl_ParseRules.f k t) (rulesV t) := by
  unfold impl_ParseRules.f rulesV
  by_cases h : t.toList = noneT
  · rw [if_pos h]
    exact Ev.congr (fun k => if_pos h) (Ev.now _)
  · rw [if_neg h]
    have hsp : strings_Split.f t (⟨#[32]⟩ : ByteArray) = some ((splL 32 t.data.toList).map mkB) := by
      unfold strings_Split.f
      rw [if_pos ⟨by omega, by decide⟩, splitB_spl 32 t.size t (Nat.le_refl _)]
    refine Ev.congr (fun k => (if_neg h).trans (by rw [hsp, Option.bind_some])) ?_
    have hlen := splL_length 32 t.data.toList.length t.data.toList (Nat.le_refl _)
    rw [size_data] at ht
    exact rulesI_loop _ (by rw [List.length_map]; omega) (splL_bound 32 t (by rw [size_data]; omega)) _ 0 [] rfl (Nat.zero_le _)
theorem rulesS_val (t : ByteArray) (ht : t.size ≤ 1048576) : Ev (fun k => spec_ParseRules.f k t) (rulesV t) := by
  have hlen := splL_length 32 t.data.toList.length t.data.toList (Nat.le_refl _)
  have hlen2 : ((splL 32 t.data.toList).map mkB).length ≤ 1048577 := by rw [List.length_map]; rw [size_data] at ht; omega
  unfold spec_ParseRules.f rulesV
  refine Ev.bind (spl_val t ht 32) ?_
  by_cases h : t.toList = noneT
  · rw [if_pos h]
    have hne : (splL 32 t.data.toList).map mkB ≠ [] := by
      intro e
      exact splL_ne 32 _ (List.map_eq_nil_iff.1 e)
    have hpos : 0 < ((splL 32 t.data.toList).map mkB).length := List.length_pos_iff.2 hne
    refine Ev.step (f := fun k => spec_ParseRules.j1 k t [] ((splL 32 t.data.toList).map mkB) 0 false) (fun k => ?_) ?_
    · simp only [spec_ParseRules.l0]
      rw [if_pos (by omega), h]
      rfl
    · refine Ev.step (f := fun _ => some ([], true)) (fun k => ?_) (Ev.now _)
      simp only [spec_ParseRules.j1]
      rw [if_neg (by decide)]
  · rw [if_neg h]
    exact rulesS_loop t h _ hlen2 (splL_bound 32 t ht) _ 0 [] rfl (Nat.zero_le _)
theorem splL_app {c : UInt8} (b : Bs) : ∀ {a : Bs}, c ∉ a → splL c (a ++ c :: b) = a :: splL c b
  | [], _ => by rw [List.nil_append, splL, if_pos rfl]
  | x :: a, h => by
    rw [List.mem_cons, not_or] at h
    rw [List.cons_append, splL, if_neg (fun e => h.1 e.symm), splL_app b h.2]
    rfl
theorem splL_tail {c : UInt8} : ∀ (r : List Bs) (x : Bs), c ∉ x → (∀ y ∈ r, c ∉ y) → splL c (x ++ Lib.joinTail [c] r) = x :: r
  | [], x, hx, _ => by
    unfold Lib.joinTail
    rw [List.map_nil, List.flatten_nil, List.append_nil]
    exact splL_one hx
  | y :: r, x, hx, hr => by
    have e : Lib.joinTail [c] (y :: r) = c :: (y ++ Lib.joinTail [c] r) := by
      unfold Lib.joinTail
      rw [List.map_cons, List.flatten_cons, List.cons_append, List.cons_append, List.nil_append]
    rw [e, splL_app _ hx, splL_tail r y (hr y List.mem_cons_self) fun z hz => hr z (List.mem_cons_of_mem _ hz)]
theorem psV_tx {t : ByteArray} {s : Nat} (hs : s < 256) (h : t.data.toList = tx s) : psV t = ((s : Int), true) := by
  unfold psV
  rw [← ps_eq, h]
  have := List.all_eq_true.1 psS_all s (List.mem_range.2 hs)
  rw [beq_iff_eq] at this
  exact this
theorem tx_free {s : Nat} (hs : s < 256) : (62 : UInt8) ∉ tx s ∧ (32 : UInt8) ∉ tx s := by
  have := List.all_eq_true.1 tx_no s (List.mem_range.2 hs)
  rw [Bool.and_eq_true] at this
  simpa using this
theorem ruleText_tx {r : IR} (h : anyR r = true) : (ruleText r).data.toList = tx (toP r).1 ++ 62 :: tx (toP r).2 := by
  obtain ⟨e1, e2, h1, h2⟩ := anyR_nat h
  unfold ruleText
  rw [if_pos h, ByteArray.data_append, ByteArray.data_append, Array.toList_append, Array.toList_append, e1, e2, setText_tx h1, setText_tx h2, List.append_assoc]
  rfl
theorem prV_text {r : IR} (h : anyR r = true) : prV (ruleText r) = (r.f0, r.f1, true) := by
  obtain ⟨e1, e2, h1, h2⟩ := anyR_nat h
  unfold prV
  rw [ruleText_tx h, splL_app _ (tx_free h1).1, splL_one (tx_free h2).1, List.map_cons, List.map_cons, List.map_nil]
  show prO (psV (mkB (tx (toP r).1))) (psV (mkB (tx (toP r).2))) = _
  rw [psV_tx h1 (data_mkB _), psV_tx h2 (data_mkB _)]
  unfold prO
  dsimp only
  rw [if_pos ⟨rfl, rfl⟩, ← e1, ← e2]
theorem words_all : ∀ (l out : List IR), l.all anyR = true → out.length + l.length ≤ 40 → wordsV (l.map ruleText) out = (out ++ l, true)
  | [], out, _, _ => by rw [List.map_nil, wordsV, List.append_nil]
  | x :: l, out, h, hl => by
    rw [List.all_cons, Bool.and_eq_true] at h
    rw [List.length_cons] at hl
    rw [List.map_cons, wordsV, prV_text h.1]
    dsimp only
    rw [if_pos rfl, if_neg (by omega), words_all l _ h.2 (by rw [List.length_append, List.length_singleton]; omega), List.append_assoc]
    rfl
theorem text_free {r : IR} (h : anyR r = true) : (32 : UInt8) ∉ (ruleText r).data.toList := by
  obtain ⟨_, _, h1, h2⟩ := anyR_nat h
  rw [ruleText_tx h]
  intro hm
  rcases List.mem_append.1 hm with k | k
  · exact (tx_free h1).2 k
  · rcases List.mem_cons.1 k with k | k
    · exact absurd k (by decide)
    · exact (tx_free h2).2 k
theorem round_trip {l : List IR} (hl : l.length ≤ 40) (hne : (rtV l).toList ≠ []) : rulesV (rtV l) = (l, true) := by
  unfold rtV at hne ⊢
  by_cases h0 : l.length = 0
  · rw [if_pos h0]
    rw [List.length_eq_zero_iff.1 h0]
    have e : (⟨#[110, 111, 110, 101]⟩ : ByteArray).toList = noneT := by decide +kernel
    unfold rulesV
    rw [if_pos e]
  · rw [if_neg h0] at hne ⊢
    by_cases ha : l.all anyR = true
    · rw [if_pos ha] at hne ⊢
      unfold jV at hne ⊢
      by_cases hb : (jn (l.map ruleText) (⟨#[32]⟩ : ByteArray)).length > 1048576
      · rw [if_pos hb] at hne
        exact absurd (by decide +kernel) hne
      · rw [if_neg hb]
        obtain ⟨x, r, rfl⟩ : ∃ x r, l = x :: r := by
          cases l with
          | nil => exact absurd rfl h0
          | cons x r => exact ⟨x, r, rfl⟩
        have hall := List.all_eq_true.1 ha
        have hj : jn ((x :: r).map ruleText) (⟨#[32]⟩ : ByteArray) = (ruleText x).data.toList ++ Lib.joinTail [32] (bl (r.map ruleText)) := by
          unfold jn bl
          rw [List.map_cons, List.map_cons, Lib.join_cons]
        have hs : splL 32 (jn ((x :: r).map ruleText) (⟨#[32]⟩ : ByteArray)) = bl ((x :: r).map ruleText) := by
          rw [hj, splL_tail _ _ (text_free (hall x List.mem_cons_self)) fun y hy => ?_]
          · rfl
          · unfold bl at hy
            rw [List.map_map] at hy
            obtain ⟨z, hz, rfl⟩ := List.mem_map.1 hy
            exact text_free (hall z (List.mem_cons_of_mem _ hz))
        unfold rulesV
        rw [if_neg, show (⟨(jn ((x :: r).map ruleText) (⟨#[32]⟩ : ByteArray)).toArray⟩ : ByteArray).data.toList = jn ((x :: r).map ruleText) (⟨#[32]⟩ : ByteArray) from rfl, hs]
        · have : (bl ((x :: r).map ruleText)).map mkB = (x :: r).map ruleText := by
            unfold bl
            rw [List.map_map]
            conv => rhs; rw [← List.map_id ((x :: r).map ruleText)]
            exact List.map_congr_left fun t _ => mkB_data t
          rw [this, words_all _ [] ha (by simpa using hl), List.nil_append]
        · intro e
          rw [Lib.toList_data, show (⟨(jn ((x :: r).map ruleText) (⟨#[32]⟩ : ByteArray)).toArray⟩ : ByteArray).data.toList = jn ((x :: r).map ruleText) (⟨#[32]⟩ : ByteArray) from rfl, hj, ruleText_tx (hall x List.mem_cons_self)] at e
          have h62 : (62 : UInt8) ∈ noneT := by
            rw [← e]
            simp
          exact absurd h62 (by decide)
    · rw [if_neg ha] at hne
      exact absurd (by decide +kernel) hne
def respV (r : IR) (s : Int) : Bool := anyR r && isAny s && (!sub (toP r).1 s.toNat || sub (toP r).2 s.toNat)
theorem respS_val (a b s : Int) : spec_Respects.f a b s = some (respV ⟨a, b⟩ s) := by
  unfold spec_Respects.f
  rw [rule_val, Option.bind_some, isSetB_8, isSetB_8, specSet_val, Option.bind_some, isSetB_8]
  unfold respV
  rw [show (isAny a && isAny b) = anyR ⟨a, b⟩ from rfl]
  cases h : anyR ⟨a, b⟩ with
  | false => rfl
  | true =>
    obtain ⟨h1, h2, h3, h4⟩ := anyR_nat h
    cases hs : isAny s with
    | false => rfl
    | true =>
      obtain ⟨n, hn, rfl⟩ := isAny_nat hs
      have e1 : a = ((toP ⟨a, b⟩).1 : Int) := h1
      have e2 : b = ((toP ⟨a, b⟩).2 : Int) := h2
      generalize (toP ⟨a, b⟩).1 = x at *
      generalize (toP ⟨a, b⟩).2 = y at *
      subst e1 e2
      rw [if_pos rfl, if_pos rfl, Int.toNat_natCast]
      cases hx : sub x n with
      | false => rw [if_neg (by rw [and_eq_sub h3 hn, hx]; decide)]; rfl
      | true =>
        rw [if_pos ((and_eq_sub h3 hn).2 hx)]
        refine congrArg some ?_
        rw [Bool.eq_iff_iff, beq_iff_eq, and_eq_sub h4 hn]
        simp
theorem respI_val (a b s : Int) : impl_Respects.f a b s = some (respV ⟨a, b⟩ s) := by
  unfold impl_Respects.f impl_areAnyRules.f
  rw [Option.bind_some, any_val, Option.bind_some]
  unfold respV
  rw [show ([(⟨a, b⟩ : IR)].all anyR) = anyR ⟨a, b⟩ from by simp]
  cases h : anyR ⟨a, b⟩ with
  | false => rfl
  | true =>
    obtain ⟨h1, h2, h3, h4⟩ := anyR_nat h
    cases hs : isAny s with
    | false => rfl
    | true =>
      obtain ⟨n, hn, rfl⟩ := isAny_nat hs
      have e1 : a = ((toP ⟨a, b⟩).1 : Int) := h1
      have e2 : b = ((toP ⟨a, b⟩).2 : Int) := h2
      generalize (toP ⟨a, b⟩).1 = x at *
      generalize (toP ⟨a, b⟩).2 = y at *
      subst e1 e2
      rw [if_pos rfl, if_pos rfl, Int.toNat_natCast, inSet_val h3 hn, Option.bind_some, inSet_val h4 hn, Option.bind_some]
      cases sub x n <;> simp
def areV (n : Int) (l : List IR) : Bool := decide (0 ≤ n ∧ n ≤ 6) && decide ((l.length : Int) ≤ 40) && l.all (ruleB n)
theorem are_loop (n : Int) (l : List IR) (hl : l.length ≤ 9223372036854775807) : ∀ (rest : List IR) (i : Nat), l.drop i = rest → Ev (fun k => spec_AreRules.l0 k n l (i : Int)) (decide (0 ≤ n ∧ n ≤ 6) && decide ((l.length : Int) ≤ 40) && rest.all (ruleB n)) := by
  intro rest
  induction rest with
  | nil =>
    intro i h
    have := drop_nil h
    refine Ev.step (f := fun _ => some (decide (0 ≤ n ∧ n ≤ 6) && decide ((l.length : Int) ≤ 40) && true)) (fun k => ?_) (Ev.now _)
    simp only [spec_AreRules.l0]
    rw [if_neg (by omega), l1In_val, Option.bind_some, Bool.and_true]
    cases decide (0 ≤ n ∧ n ≤ 6) <;> rfl
  | cons x rest ih =>
    intro i h
    obtain ⟨hi, hx, hr⟩ := drop_cons (d := z48) h
    rw [List.all_cons]
    cases e : ruleB n x with
    | true =>
      refine Ev.step (f := fun k => spec_AreRules.l0 k n l ((i + 1 : Nat) : Int)) (fun k => ?_) (ih (i + 1) hr)
      simp only [spec_AreRules.l0]
      rw [if_pos (by omega), if_pos (by omega), rdR, hx, rule_val, Option.bind_some, show (isSetB n x.f0 && isSetB n x.f1) = true from e, if_pos rfl, wrap_succ hi hl]
    | false =>
      refine Ev.step (f := fun _ => some false) (fun k => ?_) ?_
      · simp only [spec_AreRules.l0]
        rw [if_pos (by omega), if_pos (by omega), rdR, hx, rule_val, Option.bind_some, show (isSetB n x.f0 && isSetB n x.f1) = false from e, if_neg (by decide)]
      · rw [Bool.false_and, Bool.and_false]
        exact Ev.now false
theorem areS_val (n : Int) (l : List IR) (hl : l.length ≤ 9223372036854775807) : Ev (fun k => spec_AreRules.f k n l) (areV n l) := are_loop n l hl l 0 rfl
theorem areI_val (n : Int) (l : List IR) : impl_AreRules.f n l = some (areV n l) := rfl
theorem areV_nat {n : Int} {l : List IR} (h : areV n l = true) : ∃ m : Nat, n = (m : Int) ∧ m ≤ 6 ∧ l.length ≤ 40 ∧ l.all anyR = true ∧ ∀ r ∈ l, (toP r).1 < 2 ^ m ∧ (toP r).2 < 2 ^ m := by
  unfold areV at h
  rw [Bool.and_eq_true, Bool.and_eq_true, decide_eq_true_iff, decide_eq_true_iff, List.all_eq_true] at h
  obtain ⟨⟨h1, h2⟩, h3⟩ := h
  refine ⟨n.toNat, by omega, by omega, by omega, List.all_eq_true.2 fun r hr => ?_, fun r hr => ?_⟩
  · have := h3 r hr
    unfold ruleB at this
    rw [Bool.and_eq_true] at this
    unfold anyR
    rw [isSetB_any this.1, isSetB_any this.2]; rfl
  · have := h3 r hr
    unfold ruleB at this
    rw [Bool.and_eq_true] at this
    obtain ⟨m, a, hm, e1, ha, e2⟩ := isSetB_nat this.1
    obtain ⟨m', b, hm', e1', hb, e2'⟩ := isSetB_nat this.2
    unfold toP
    rw [e2, e2', e1, Int.toNat_natCast, Int.toNat_natCast, Int.toNat_natCast]
    refine ⟨ha, ?_⟩
    have : m' = m := by omega
    rw [← this]; exact hb
end Go.Proofs.YtafnamchckehmaaGreatDoor.Pu
