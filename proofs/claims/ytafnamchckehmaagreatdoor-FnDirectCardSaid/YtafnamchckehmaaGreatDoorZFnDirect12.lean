/- What the law needs of the program's functions as plain functions, of the proofs that their calls answer so, and of plain laws: gathered by a program of this place (pack.py) out of its printed texts. No condition beyond what each statement says. -/
import Derived.Test.YtafnamchckehmaaGreatDoorZFnDirect11
import Derived.Test.YtafnamchckehmaaGreatDoorZFnDirect9
import Derived.Test.YtafnamchckehmaaGreatDoorZFnDirect3
import Derived.Test.YtafnamchckehmaaGreatDoorZFnDirect6
import Derived.Test.YtafnamchckehmaaGreatDoorZFnDirect10
import Derived.Test.YtafnamchckehmaaGreatDoorZFnDirect2
import Derived.Test.YtafnamchckehmaaGreatDoorZFnDirect4
import Derived.Test.YtafnamchckehmaaGreatDoorZFnDirect5
import Derived.Test.YtafnamchckehmaaGreatDoorZFnDirect7
import Derived.Shelf.SlSortCmp.Kit1
import Derived.Shelf.RegionOpenPlain
import Derived.Sort.WalkB2
import Derived.Sort.WalkB12
import Derived.Deep.LoopGhost
import Derived.Sort.WalkA
import Derived.Test.YtafnamchckehmaaGreatDoorZFnDirect8
import Derived.Shelf.Abstract
namespace Go.Proofs.YtafnamchckehmaaGreatDoor.Pu
open Go.RowKit Go.Proofs.YtafnamchckehmaaGreatDoorW.PrintWords Go.Proofs.YtafnamchckehmaaGreatDoorW.PrintLast Go.Proofs.YtafnamchckehmaaGreatDoorW.PrintMore Go.Proofs.YtafnamchckehmaaGreatDoor.Pr
def allN (m : Nat) : List Nat := lecR (List.range (2 ^ m))
theorem range_lt {m : Nat} (hm : m ≤ 8) : ∀ x ∈ List.range (2 ^ m), x < 256 := fun x hx => by
  have := pow_256 hm
  rw [List.mem_range] at hx
  omega
theorem mem_allN {m : Nat} (hm : m ≤ 8) {x : Nat} : x ∈ allN m ↔ x < 2 ^ m := by
  unfold allN
  rw [mem_lecR (range_lt hm), List.mem_range]
theorem allN_length {m : Nat} (hm : m ≤ 8) : (allN m).length = 2 ^ m := by
  unfold allN
  rw [lecR_length (range_lt hm) List.nodup_range, List.length_range]
theorem allN_row {m : Nat} (hm : m ≤ 8) {i : Nat} (hi : i < (allN m).length) : row (allN m) i < 2 ^ m := by
  unfold row
  rw [List.getD_eq_getElem?_getD, List.getElem?_eq_getElem hi]
  exact (mem_allN hm).1 (List.getElem_mem _)
theorem all_val {m : Nat} (hm : m ≤ 8) : Ev (fun k => impl_allSets.f k (m : Int)) (cast (allN m)) := by
  have hp := pow_256 hm
  have h1 := Nat.two_pow_pos m
  have hs : impl_SortLectic.f (cast (List.range (2 ^ m))) = some (cast (allN m)) := by
    unfold impl_SortLectic.f
    rw [if_pos ⟨cast_any (range_lt hm), cast_nodup List.nodup_range, by rw [cast_length, List.length_range]; exact h1⟩]
    have e : (cast (List.range (2 ^ m))).map Int.toNat = List.range (2 ^ m) := by
      unfold cast
      rw [List.map_map]
      exact List.map_id _
    rw [e]
    rfl
  unfold impl_allSets.f
  rw [shl_one m hm]
  refine Ev.congr (fun k => by rw [if_pos (by omega)]) ?_
  refine ev_fold (g := fun k (a : List Nat) i => impl_allSets.l0 k (cast a) ((2 ^ m : Nat) : Int) i) (rangeStep fun _ => true) (fun i a => a.length ≤ i) (N := 2 ^ m) ?_ (fun i a _ h => rangeStep_len _ i a h) (2 ^ m) 0 [] (by omega) (Nat.le_refl _) ?_
  · intro i a hi ha h
    refine Ev.step (fun k => ?_) h
    simp only [impl_allSets.l0]
    rw [if_pos (by omega), if_pos (by rw [cast_length]; omega), castOne, show wrap64 ((i : Int) + 1) = ((i + 1 : Nat) : Int) from by unfold wrap64; omega]
    rfl
  · intro b hb _
    rw [range_all, List.filter_eq_self.2 (fun _ _ => rfl)] at hb
    subst hb
    refine Ev.step (f := fun _ => some (cast (allN m))) (fun k => ?_) (Ev.now _)
    simp only [impl_allSets.l0]
    rw [if_neg (by omega), hs]
    rfl
def keptN (m : Nat) (q : Nat → Bool) : List Nat := lecR ((List.range (2 ^ m)).filter q)
theorem keptN_eq (m : Nat) (q : Nat → Bool) : (allN m).filter q = keptN m q := lecR_filter q
theorem filt_lt {m : Nat} (hm : m ≤ 8) (q : Nat → Bool) : ∀ x ∈ (List.range (2 ^ m)).filter q, x < 256 := fun x hx => range_lt hm x ((List.mem_filter.1 hx).1)
theorem mem_keptN {m : Nat} (hm : m ≤ 8) {q : Nat → Bool} {x : Nat} : x ∈ keptN m q ↔ x < 2 ^ m ∧ q x = true := by
  unfold keptN
  rw [mem_lecR (filt_lt hm q), List.mem_filter, List.mem_range]
theorem keptN_le {m : Nat} {q : Nat → Bool} : (keptN m q).length ≤ 256 := lecR_len
end Go.Proofs.YtafnamchckehmaaGreatDoor.Pu
namespace Go.Proofs.YtafnamchckehmaaGreatDoor.Pu
open Go.RowKit Go.Proofs.YtafnamchckehmaaGreatDoorW.PrintWords Go.Proofs.YtafnamchckehmaaGreatDoorW.PrintLast Go.Proofs.YtafnamchckehmaaGreatDoorW.PrintMore Go.Proofs.YtafnamchckehmaaGreatDoor.Pr
def ctxB (n : Int) (l : List Int) : Bool := decide (0 ≤ n ∧ n ≤ 6) && decide ((l.length : Int) ≤ 8) && l.all (isSetB n)
theorem ctxI_val (n : Int) (l : List Int) : impl_IsContext.f n l = some (ctxB n l) := rfl
theorem ctxS_loop (n : Int) (l : List Int) (hl : l.length ≤ 9223372036854775807) : ∀ (rest : List Int) (i : Nat), l.drop i = rest → Ev (fun k => spec_IsContext.l0 k (i : Int) n l) (decide (0 ≤ n ∧ n ≤ 6) && decide ((l.length : Int) ≤ 8) && rest.all (isSetB n)) := by
  intro rest
  induction rest with
  | nil =>
    intro i h
    have := drop_nil h
    refine Ev.step (f := fun _ => some (decide (0 ≤ n ∧ n ≤ 6) && decide ((l.length : Int) ≤ 8))) (fun k => ?_) ?_
    · simp only [spec_IsContext.l0]
      rw [if_neg (by omega), l1In_val, Option.bind_some]
      by_cases h6 : 0 ≤ n ∧ n ≤ 6
      · rw [decide_eq_true h6]; rfl
      · rw [decide_eq_false h6]; rfl
    · rw [List.all_nil, Bool.and_true]; exact Ev.now _
  | cons x rest ih =>
    intro i h
    obtain ⟨hi, hx, hd⟩ := drop_cons (d := 0) h
    cases hq : isSetB n x with
    | true =>
      refine Ev.step (f := fun k => spec_IsContext.l0 k ((i + 1 : Nat) : Int) n l) (fun k => ?_) ?_
      · simp only [spec_IsContext.l0]
        rw [if_pos (by omega), if_pos (by omega), rd_nat, hx, specSet_val, Option.bind_some, hq, if_pos rfl, wrap_succ hi hl]
      · rw [List.all_cons, hq, Bool.true_and]; exact ih (i + 1) hd
    | false =>
      refine Ev.step (f := fun _ => some false) (fun k => ?_) ?_
      · simp only [spec_IsContext.l0]
        rw [if_pos (by omega), if_pos (by omega), rd_nat, hx, specSet_val, Option.bind_some, hq, if_neg (by decide)]
      · rw [List.all_cons, hq, Bool.false_and, Bool.and_false]; exact Ev.now _
theorem ctxS_val (n : Int) (l : List Int) (hl : l.length ≤ 9223372036854775807) : Ev (fun k => spec_IsContext.f k n l) (ctxB n l) := ctxS_loop n l hl l 0 rfl
theorem ctxB_nat {n : Int} {l : List Int} (h : ctxB n l = true) : ∃ (m : Nat) (R : List Nat), n = (m : Int) ∧ m ≤ 6 ∧ l = cast R ∧ R.length ≤ 8 ∧ ∀ r ∈ R, r < 2 ^ m := by
  unfold ctxB at h
  rw [Bool.and_eq_true, Bool.and_eq_true, decide_eq_true_iff, decide_eq_true_iff, List.all_eq_true] at h
  obtain ⟨⟨h1, h2⟩, h3⟩ := h
  have hx : ∀ x ∈ l, 0 ≤ x ∧ x.toNat < 2 ^ n.toNat := by
    intro x hx
    obtain ⟨m, a, hm, e1, ha, e2⟩ := isSetB_nat (h3 x hx)
    subst e2
    refine ⟨by omega, ?_⟩
    rw [e1, Int.toNat_natCast, Int.toNat_natCast]
    exact ha
  refine ⟨n.toNat, l.map Int.toNat, by omega, by omega, cast_of fun x h => (hx x h).1, by rw [List.length_map]; omega, fun r hr => ?_⟩
  obtain ⟨x, hx', rfl⟩ := List.mem_map.1 hr
  exact (hx x hx').2
end Go.Proofs.YtafnamchckehmaaGreatDoor.Pu
namespace Go.Proofs.YtafnamchckehmaaGreatDoor.Pu
open Go.RowKit Go.Proofs.YtafnamchckehmaaGreatDoorW.PrintWords Go.Proofs.YtafnamchckehmaaGreatDoorW.PrintLast Go.Proofs.YtafnamchckehmaaGreatDoorW.PrintMore Go.Proofs.YtafnamchckehmaaGreatDoor.Pr
theorem col_lt (R : List Nat) (m : Nat) : col R m < 2 ^ R.length := ofBits_lt _ _
def attrB (n : Int) (l : List Int) (m : Int) : Bool := ctxB n l && decide (0 ≤ m ∧ m < n)
theorem attrI_val (n : Int) (l : List Int) (m : Int) : impl_isAttribute.f n l m = some (attrB n l m) := by
  unfold impl_isAttribute.f attrB
  rw [ctxI_val, Option.bind_some]
  cases h : ctxB n l with
  | false => rfl
  | true =>
    obtain ⟨q, R, rfl, hq, _⟩ := ctxB_nat h
    rw [if_pos rfl, within_val, Option.bind_some, Bool.true_and, show wrap64 ((q : Int) - 1) = (q : Int) - 1 from by unfold wrap64; omega]
    refine congrArg some ?_
    rw [decide_eq_decide]
    omega
theorem colI_loop (R : List Nat) (hR : R.length ≤ 8) (hrow : ∀ i, row R i < 256) (m : Nat) (hm : m ≤ 8) : Ev (fun k => impl_ColumnOf.l0 k (m : Int) 0 (cast R) ((cast R).length : Int) 0) ((col R m : Nat) : Int) := by
  refine ev_fold (g := fun k (a : Nat) i => impl_ColumnOf.l0 k (m : Int) (a : Int) (cast R) ((cast R).length : Int) i) (bitStep fun g => (row R g).testBit m) (fun _ a => a < 2 ^ R.length) (N := R.length) ?_ (fun i a hi h => bitStep_lt hi h) R.length 0 0 (by omega) (Nat.two_pow_pos _) ?_
  · intro i a hi ha h
    have ha' := lt_256 hR ha
    refine Ev.step (fun k => ?_) h
    simp only [impl_ColumnOf.l0]
    rw [if_pos (by rw [cast_length]; omega), if_pos (by omega), if_pos (by rw [cast_length]; omega), if_pos (by omega), rd_row, bit01 _ _ (by have := hrow i; omega) (by omega), or_shl ha' (by omega), wrap_succ hi (by omega)]
    rfl
  · intro b hb _
    refine Ev.step (f := fun _ => some (b : Int)) (fun k => ?_) ?_
    · simp only [impl_ColumnOf.l0]
      rw [if_neg (by rw [cast_length]; omega)]
    · rw [hb, fold_bits]; exact Ev.now _
theorem colI_val {n : Int} {l : List Int} {m : Nat} {R : List Nat} {g : Nat} (h : ctxB n l = true) (e : n = (m : Int)) (e' : l = cast R) (hm : m ≤ 6) (hR : R.length ≤ 8) (hb : ∀ r ∈ R, r < 2 ^ m) (hg : g < m) : Ev (fun k => impl_ColumnOf.f k n l (g : Int)) ((col R g : Nat) : Int) := by
  unfold impl_ColumnOf.f
  have ha : attrB n l (g : Int) = true := by unfold attrB; rw [h, Bool.true_and, decide_eq_true_iff]; omega
  refine Ev.congr (fun k => by rw [attrI_val, ha, Option.bind_some, if_pos rfl, e']) ?_
  exact colI_loop R hR (fun i => lt_256 (show m ≤ 8 by omega) (row_lt hb i)) g (by omega)
def cols (m : Nat) (R : List Nat) : List Nat := (List.range m).map (col R)
theorem cols_length (m : Nat) (R : List Nat) : (cols m R).length = m := by unfold cols; rw [List.length_map, List.length_range]
theorem row_cols {m i : Nat} (R : List Nat) (h : i < m) : row (cols m R) i = col R i := by
  unfold row cols
  rw [List.getD_eq_getElem?_getD, List.getElem?_map, List.getElem?_range h]
  rfl
theorem cols_lt {m : Nat} {R : List Nat} : ∀ r ∈ cols m R, r < 2 ^ R.length := by
  intro r hr
  obtain ⟨i, _, rfl⟩ := List.mem_map.1 hr
  exact col_lt R i
theorem colsI_val {n : Int} {l : List Int} {m : Nat} {R : List Nat} (h : ctxB n l = true) (e : n = (m : Int)) (e' : l = cast R) (hm : m ≤ 6) (hR : R.length ≤ 8) (hb : ∀ r ∈ R, r < 2 ^ m) : Ev (fun k => impl_columns.f k n l) (cast (cols m R)) := by
  unfold impl_columns.f
  subst e
  refine ev_fold (g := fun k (a : List Int) i => impl_columns.l0 k a (m : Int) i (m : Int) l) (fun i a => a ++ [((col R i : Nat) : Int)]) (fun i a => a = cast ((List.range i).map (col R))) (N := m) ?_ ?_ m 0 [] (by omega) rfl ?_
  · intro i a hi ha h'
    have hl : a.length ≤ 8 := by rw [ha, cast_length, List.length_map, List.length_range]; omega
    refine Ev.step (f := fun k => (impl_ColumnOf.f k (m : Int) l (i : Int)).bind fun t => impl_columns.l0 k (a ++ [t]) (m : Int) ((i + 1 : Nat) : Int) (m : Int) l) (fun k => ?_) ?_
    · simp only [impl_columns.l0]
      rw [if_pos (by omega), wrap_succ hi (by omega)]
      simp only [if_pos (show a.length < 17592186044416 by omega)]
    · exact Ev.bind (colI_val h rfl e' hm hR hb hi) h'
  · intro i a hi ha
    rw [ha, List.range_succ, List.map_append]
    unfold cast
    rw [List.map_append]
    rfl
  · intro b _ hb'
    refine Ev.step (f := fun _ => some b) (fun k => ?_) ?_
    · simp only [impl_columns.l0]
      rw [if_neg (by omega)]
    · rw [hb']; exact Ev.now _
end Go.Proofs.YtafnamchckehmaaGreatDoor.Pu
namespace Go.Proofs.YtafnamchckehmaaGreatDoor.Pu
open Go.RowKit Go.Proofs.YtafnamchckehmaaGreatDoorW.PrintWords Go.Proofs.YtafnamchckehmaaGreatDoorW.PrintLast Go.Proofs.YtafnamchckehmaaGreatDoorW.PrintMore Go.Proofs.YtafnamchckehmaaGreatDoor.Pr
def atsB (n : Int) (l : List Int) (a : Int) : Bool := ctxB n l && isSetB n a
theorem atsI_val (n : Int) (l : List Int) (a : Int) : impl_areAttributes.f n l a = some (atsB n l a) := by
  unfold impl_areAttributes.f atsB
  rw [ctxI_val, Option.bind_some]
  cases ctxB n l with
  | false => rfl
  | true => rw [if_pos rfl, set_val, Option.bind_some, Bool.true_and]
def obsB (n : Int) (l : List Int) (o : Int) : Bool := ctxB n l && isSetB (l.length : Int) o
theorem obsI_val (n : Int) (l : List Int) (o : Int) : impl_areObjects.f n l o = some (obsB n l o) := by
  unfold impl_areObjects.f obsB
  rw [ctxI_val, Option.bind_some]
  cases ctxB n l with
  | false => rfl
  | true => rw [if_pos rfl, set_val, Option.bind_some, Bool.true_and]
end Go.Proofs.YtafnamchckehmaaGreatDoor.Pu
namespace Go.Proofs.YtafnamchckehmaaGreatDoor.Pu
open Go.RowKit Go.Proofs.YtafnamchckehmaaGreatDoorW.PrintWords Go.Proofs.YtafnamchckehmaaGreatDoorW.PrintLast Go.Proofs.YtafnamchckehmaaGreatDoorW.PrintMore Go.Proofs.YtafnamchckehmaaGreatDoor.Pr
def comStep (L : List Nat) (c i f : Nat) : Nat := if c.testBit i = true then f &&& row L i else f
def com (L : List Nat) (c f : Nat) : Nat := foldIdx (comStep L c) 0 L.length f
theorem comStep_le (L : List Nat) (c i f : Nat) : comStep L c i f ≤ f := by
  unfold comStep
  split
  · exact Nat.and_le_left
  · exact Nat.le_refl _
theorem testBit_fold_com (L : List Nat) (c j : Nat) : ∀ (d i f : Nat), i + d = L.length → ((foldIdx (comStep L c) i L.length f).testBit j = true ↔ f.testBit j = true ∧ ∀ g, i ≤ g → g < L.length → c.testBit g = true → (row L g).testBit j = true) := by
  intro d
  induction d with
  | zero =>
    intro i f h
    rw [foldIdx_end _ (by omega)]
    exact ⟨fun h => ⟨h, fun g h1 h2 => by omega⟩, fun h => h.1⟩
  | succ d ih =>
    intro i f h
    have hi : i < L.length := by omega
    rw [foldIdx_step _ hi f, ih (i + 1) _ (by omega)]
    unfold comStep
    by_cases hc : c.testBit i = true
    · rw [if_pos hc, Nat.testBit_and, Bool.and_eq_true]
      constructor
      · rintro ⟨⟨h1, h2⟩, h3⟩
        refine ⟨h1, fun g hg hg' hcg => ?_⟩
        by_cases e : g = i
        · subst e; exact h2
        · exact h3 g (by omega) hg' hcg
      · rintro ⟨h1, h2⟩
        exact ⟨⟨h1, h2 i (Nat.le_refl _) hi hc⟩, fun g hg hg' hcg => h2 g (by omega) hg' hcg⟩
    · rw [if_neg hc]
      constructor
      · rintro ⟨h1, h3⟩
        refine ⟨h1, fun g hg hg' hcg => ?_⟩
        by_cases e : g = i
        · subst e; exact absurd hcg hc
        · exact h3 g (by omega) hg' hcg
      · rintro ⟨h1, h2⟩
        exact ⟨h1, fun g hg hg' hcg => h2 g (by omega) hg' hcg⟩
theorem testBit_com (L : List Nat) (c f j : Nat) : (com L c f).testBit j = true ↔ f.testBit j = true ∧ ∀ g, g < L.length → c.testBit g = true → (row L g).testBit j = true := by
  unfold com
  rw [testBit_fold_com L c j L.length 0 f (by omega)]
  exact ⟨fun h => ⟨h.1, fun g h1 => h.2 g (Nat.zero_le _) h1⟩, fun h => ⟨h.1, fun g _ h1 => h.2 g h1⟩⟩
theorem testBit_col (R : List Nat) (m g : Nat) : (col R m).testBit g = (decide (g < R.length) && (row R g).testBit m) := testBit_ofBits ..
theorem ext_com {m : Nat} {R : List Nat} {a : Nat} (ha : a < 2 ^ m) : com (cols m R) a (full R.length) = ext R a := by
  apply Nat.eq_of_testBit_eq
  intro g
  rw [Bool.eq_iff_iff, testBit_com, testBit_ext, testBit_full, Bool.and_eq_true, decide_eq_true_iff, sub_iff, cols_length]
  refine and_congr_right fun hg => ⟨fun h i hi => ?_, fun h i hi hai => ?_⟩
  · have him : i < m := by
      rcases Nat.lt_or_ge i m with h' | h'
      · exact h'
      · rw [lt_two_pow_iff.1 ha i h'] at hi; cases hi
    have := h i him hi
    rw [row_cols R him, testBit_col, Bool.and_eq_true] at this
    exact this.2
  · rw [row_cols R hi, testBit_col, h i hai, decide_eq_true hg]
    rfl
theorem int_com (m : Nat) (R : List Nat) (o : Nat) : com R o (full m) = int m R o := by
  apply Nat.eq_of_testBit_eq
  intro i
  rw [Bool.eq_iff_iff, testBit_com, testBit_int, testBit_full, decide_eq_true_iff]
theorem ext_lt (R : List Nat) (a : Nat) : ext R a < 2 ^ R.length := ofBits_lt _ _
theorem comI_val (L : List Nat) (hl : L.length ≤ 8) (hL : ∀ i, row L i < 256) (c f : Nat) (hc : c < 256) (hf : f < 256) : Ev (fun k => impl_common.f k (cast L) (c : Int) (f : Int)) ((com L c f : Nat) : Int) := by
  unfold impl_common.f
  refine ev_fold (g := fun k (a : Nat) i => impl_common.l0 k (c : Int) (a : Int) (cast L) ((cast L).length : Int) i) (comStep L c) (fun _ a => a < 256) (N := L.length) ?_ (fun i a _ h => Nat.lt_of_le_of_lt (comStep_le L c i a) h) L.length 0 f (by omega) hf ?_
  · intro i a hi ha h
    refine Ev.step (fun k => ?_) h
    simp only [impl_common.l0]
    rw [if_pos (by rw [cast_length]; omega), if_pos (by omega), if_pos (by rw [cast_length]; omega), rd_row, wrap_succ hi (by omega), hasI_val, Option.bind_some]
    have hv : hasV (c : Int) (i : Int) = c.testBit i := by
      unfold hasV isAny
      rw [decide_eq_true (by omega), decide_eq_true (by omega)]
      simp
    rw [hv]
    unfold comStep
    by_cases h1 : c.testBit i = true
    · rw [if_pos h1, if_pos h1, and_nat (by omega) (by have := hL i; omega)]
    · rw [if_neg h1, if_neg h1]
  · intro b hb _
    refine Ev.step (f := fun _ => some (b : Int)) (fun k => ?_) ?_
    · simp only [impl_common.l0]
      rw [if_neg (by rw [cast_length]; omega)]
    · rw [hb]; exact Ev.now _
theorem intS_val (m : Nat) (hm : m ≤ 8) (R : List Nat) (hR : R.length ≤ 8) (hrow : ∀ i, row R i < 256) (o : Nat) (ho : o < 256) : Ev (fun k => spec_l4Intent.f k (m : Int) (cast R) (o : Int)) ((int m R o : Nat) : Int) := by
  unfold spec_l4Intent.f
  refine Ev.congr (fun k => by rw [fullS_val, Option.bind_some, fullN hm]) ?_
  refine ev_fold (g := fun k (a : Nat) i => spec_l4Intent.l0 k (o : Int) (a : Int) i (m : Int) (cast R)) (comStep R o) (fun _ a => a < 256) (N := R.length) ?_ (fun i a _ h => Nat.lt_of_le_of_lt (comStep_le R o i a) h) R.length 0 (full m) (by omega) (full_256 hm) ?_
  · intro i a hi ha h
    refine Ev.step (fun k => ?_) h
    simp only [spec_l4Intent.l0]
    rw [if_pos (by rw [cast_length]; omega), l2Has_val _ _ (by omega) (by omega), Option.bind_some, rd_row, wrap_succ hi (by omega)]
    unfold comStep
    by_cases h1 : o.testBit i = true
    · rw [if_pos h1, if_pos (by omega), if_pos h1, and_nat (by omega) (by have := hrow i; omega)]
    · rw [if_neg h1, if_neg h1]
  · intro b hb _
    refine Ev.step (f := fun _ => some (b : Int)) (fun k => ?_) ?_
    · simp only [spec_l4Intent.l0]
      rw [if_neg (by rw [cast_length]; omega)]
    · rw [hb, show foldIdx (comStep R o) 0 R.length (full m) = int m R o from int_com m R o]; exact Ev.now _
theorem extS_val (n : Int) (R : List Nat) (hR : R.length ≤ 8) (hrow : ∀ i, row R i < 256) (a : Nat) (ha : a < 256) : Ev (fun k => spec_l4Extent.f k n (cast R) (a : Int)) ((ext R a : Nat) : Int) := by
  unfold spec_l4Extent.f
  refine ev_fold (g := fun k (b : Nat) i => spec_l4Extent.l0 k (a : Int) (b : Int) i n (cast R)) (bitStep fun g => sub a (row R g)) (fun _ b => b < 2 ^ R.length) (N := R.length) ?_ (fun i b hi h => bitStep_lt hi h) R.length 0 0 (by omega) (Nat.two_pow_pos _) ?_
  · intro i b hi hb h
    have hb' := lt_256 hR hb
    refine Ev.step (fun k => ?_) h
    simp only [spec_l4Extent.l0]
    rw [if_pos (by rw [cast_length]; omega), if_pos (by omega), rd_row, wrap_succ hi (by omega), wrapU_small _ (by omega) (by omega)]
    unfold bitStep
    dsimp only
    by_cases h1 : sub a (row R i) = true
    · rw [if_pos ((and_is ha (hrow i)).2 h1), if_pos (by omega), if_pos h1, or_bit hb' (by omega)]
    · rw [if_neg (fun h => h1 ((and_is ha (hrow i)).1 h)), if_neg h1]
  · intro b hb _
    refine Ev.step (f := fun _ => some (b : Int)) (fun k => ?_) ?_
    · simp only [spec_l4Extent.l0]
      rw [if_neg (by rw [cast_length]; omega)]
    · rw [hb, fold_bits]; exact Ev.now _
theorem clS4_val (m : Nat) (hm : m ≤ 8) (R : List Nat) (hR : R.length ≤ 8) (hrow : ∀ i, row R i < 256) (a : Nat) (ha : a < 256) : Ev (fun k => spec_l4Closure.f k (m : Int) (cast R) (a : Int)) ((cl m R a : Nat) : Int) := by
  unfold spec_l4Closure.f
  refine Ev.bind (extS_val _ R hR hrow a ha) ?_
  exact Ev.bind (intS_val m hm R hR hrow _ (lt_256 hR (ext_lt R a))) (Ev.now _)
theorem clI4_val {m : Nat} (hm : m ≤ 6) {R : List Nat} (hR : R.length ≤ 8) (hb : ∀ r ∈ R, r < 2 ^ m) {a : Nat} (ha : a < 2 ^ m) (hc : ctxB (m : Int) (cast R) = true) : Ev (fun k => impl_ClosureOf.f k (m : Int) (cast R) (a : Int)) ((cl m R a : Nat) : Int) := by
  have hat : atsB (m : Int) (cast R) (a : Int) = true := by unfold atsB; rw [hc, isSetB_mk (by omega) ha]; rfl
  have hob : obsB (m : Int) (cast R) ((ext R a : Nat) : Int) = true := by unfold obsB; rw [hc, cast_length, isSetB_mk hR (ext_lt R a)]; rfl
  have hrow := fun i => lt_256 (show m ≤ 8 by omega) (row_lt hb i)
  unfold impl_ClosureOf.f impl_ExtentOf.f impl_IntentOf.f
  rw [atsI_val, hat]
  simp only [Option.bind_some]
  refine Ev.congr (fun k => by rw [if_true, if_true]) ?_
  have h1 : Ev (fun k => (impl_columns.f k (m : Int) (cast R)).bind fun t371 => (impl_FullSet.f ((cast R).length : Int)).bind fun t374 => (impl_common.f k t371 (a : Int) t374).bind fun t375 => some t375) ((ext R a : Nat) : Int) := by
    refine Ev.bind (colsI_val hc rfl rfl hm hR hb) ?_
    refine Ev.congr (fun k => by rw [fullI_val, Option.bind_some, cast_length, fullN hR]) ?_
    refine Ev.bind (comI_val (cols m R) (by rw [cols_length]; omega) (fun i => lt_256 hR (row_lt cols_lt i)) a _ (lt_256 (show m ≤ 8 by omega) ha) (full_256 hR)) ?_
    rw [ext_com ha]
    exact Ev.now _
  refine Ev.bind h1 ?_
  refine Ev.congr (fun k => by rw [obsI_val, hob, Option.bind_some, if_pos rfl, fullI_val, Option.bind_some, fullN (by omega)]) ?_
  have h2 : Ev (fun k => (impl_common.f k (cast R) ((ext R a : Nat) : Int) ((full m : Nat) : Int)).bind fun t368 => some t368) ((cl m R a : Nat) : Int) := by
    refine Ev.bind (comI_val R hR hrow _ _ (lt_256 hR (ext_lt R a)) (full_256 (by omega))) ?_
    rw [int_com]
    exact Ev.now _
  exact Ev.bind h2 (Ev.now _)
theorem cl_256 {m : Nat} (hm : m ≤ 8) (R : List Nat) (a : Nat) : cl m R a < 256 := lt_256 hm (cl_lt m R a)
end Go.Proofs.YtafnamchckehmaaGreatDoor.Pu
namespace Go.Proofs.YtafnamchckehmaaGreatDoor.Pu
open Go.RowKit Go.Proofs.YtafnamchckehmaaGreatDoorW.PrintWords Go.Proofs.YtafnamchckehmaaGreatDoorW.PrintLast Go.Proofs.YtafnamchckehmaaGreatDoorW.PrintMore Go.Proofs.YtafnamchckehmaaGreatDoor.Pr
def elN (s : Nat) : List Nat := (List.range 8).filter fun (e : Nat) => s.testBit e
theorem elN_length (s : Nat) : (elN s).length ≤ 8 := by
  have := List.length_filter_le (fun (e : Nat) => s.testBit e) (List.range 8)
  rw [List.length_range] at this
  exact this
theorem elN_le (s i : Nat) : row (elN s) i ≤ 7 := by
  unfold row
  rw [List.getD_eq_getElem?_getD]
  cases h : (elN s)[i]? with
  | none => exact Nat.zero_le _
  | some x =>
    have := List.mem_range.1 (List.mem_filter.1 (List.mem_of_getElem? h)).1
    show x ≤ 7
    omega
theorem elemsV_nat {a : Nat} (ha : a < 256) : elemsV (a : Int) = cast (elN a) := by
  unfold elemsV isAny
  rw [decide_eq_true (by omega), if_pos rfl, Int.toNat_natCast]
  rfl
end Go.Proofs.YtafnamchckehmaaGreatDoor.Pu
namespace Go.Proofs.YtafnamchckehmaaGreatDoor.Pu
open Go.RowKit Go.Proofs.YtafnamchckehmaaGreatDoorW.PrintWords Go.Proofs.YtafnamchckehmaaGreatDoorW.PrintLast Go.Proofs.YtafnamchckehmaaGreatDoorW.PrintMore Go.Proofs.YtafnamchckehmaaGreatDoor.Pr
def prSt (m : Nat) (R : List Nat) (s out e : Nat) : Nat := diff out (cl m R (diff s (2 ^ e)))
def newN (m : Nat) (R : List Nat) (s : Nat) : Nat := (elN s).foldl (prSt m R s) (diff (cl m R s) s)
theorem fold_list {α : Type} (g : α → Nat → α) (L : List Nat) : ∀ (rest : List Nat) (i : Nat) (a : α), L.drop i = rest → foldIdx (fun i a => g a (row L i)) i L.length a = rest.foldl g a := by
  intro rest
  induction rest with
  | nil => intro i a h; rw [foldIdx_end _ (drop_nil h)]; rfl
  | cons x rest ih =>
    intro i a h
    obtain ⟨hi, hx, hd⟩ := drop_cons (d := 0) h
    rw [foldIdx_step _ hi, ih (i + 1) _ hd, List.foldl_cons]
    unfold row
    rw [hx]
def bitFold (m : Nat) (R : List Nat) (s e out : Nat) : Nat := if s.testBit e = true then prSt m R s out e else out
theorem fold_bitF (m : Nat) (R : List Nat) (s : Nat) (a : Nat) : ∀ N, foldIdx (bitFold m R s) 0 N a = ((List.range N).filter fun e => s.testBit e).foldl (prSt m R s) a
  | 0 => by rw [foldIdx_end _ (Nat.le_refl _)]; rfl
  | N + 1 => by
    rw [foldIdx_last _ (Nat.zero_le _), fold_bitF m R s a N, List.range_succ, List.filter_append, List.foldl_append]
    unfold bitFold
    cases h : s.testBit N with
    | true => rw [if_pos rfl, List.filter_cons, h]; rfl
    | false => rw [if_neg (by decide), List.filter_cons, h]; rfl
theorem elN_range {m s : Nat} (hm : m ≤ 8) (hs : s < 2 ^ m) : (List.range m).filter (fun e => s.testBit e) = elN s := by
  unfold elN
  obtain ⟨k, hk⟩ : ∃ k, m + k = 8 := ⟨8 - m, by omega⟩
  rw [← hk, List.range_add, List.filter_append]
  have : ((List.range k).map fun x => m + x).filter (fun e => s.testBit e) = [] := by
    rw [List.filter_eq_nil_iff]
    intro x hx
    obtain ⟨y, _, rfl⟩ := List.mem_map.1 hx
    rw [lt_two_pow_iff.1 hs (m + y) (by omega)]
    decide
  rw [this, List.append_nil]
theorem prSt_le (m : Nat) (R : List Nat) (s out e : Nat) : prSt m R s out e ≤ out := diff_le _ _
theorem diff_lt {a b n : Nat} (h : a < n) : diff a b < n := Nat.lt_of_le_of_lt (diff_le a b) h
theorem newN_lt {m : Nat} (R : List Nat) (s : Nat) : newN m R s < 2 ^ m := by
  unfold newN
  have : ∀ (L : List Nat) (a : Nat), a < 2 ^ m → L.foldl (prSt m R s) a < 2 ^ m := by
    intro L
    induction L with
    | nil => exact fun a h => h
    | cons x L ih => exact fun a h => ih _ (Nat.lt_of_le_of_lt (prSt_le _ _ _ _ _) h)
  exact this _ _ (diff_lt (cl_lt m R s))
theorem pow_bit {s e m : Nat} (hs : s < 2 ^ m) (h : s.testBit e = true) : e < m := by
  rcases Nat.lt_or_ge e m with h' | h'
  · exact h'
  · rw [lt_two_pow_iff.1 hs e h'] at h; cases h
theorem newI_val {m : Nat} (hm : m ≤ 6) {R : List Nat} (hR : R.length ≤ 8) (hb : ∀ r ∈ R, r < 2 ^ m) {s : Nat} (hs : s < 2 ^ m) (hc : ctxB (m : Int) (cast R) = true) : Ev (fun k => impl_proper.f k (m : Int) (cast R) (s : Int)) ((newN m R s : Nat) : Int) := by
  have hs8 := lt_256 (show m ≤ 8 by omega) hs
  unfold impl_proper.f
  refine Ev.bind (clI4_val hm hR hb hs hc) ?_
  refine Ev.bind (elemsI_val (s : Int)) ?_
  rw [elemsV_nat hs8, andNot_nat (by have := cl_256 (show m ≤ 8 by omega) R s; omega) (by omega)]
  refine ev_fold (g := fun k (a : Nat) i => impl_proper.l0 k (s : Int) (a : Int) (cast (elN s)) ((cast (elN s)).length : Int) i (m : Int) (cast R)) (fun i a => prSt m R s a (row (elN s) i)) (fun _ a => a < 2 ^ m) (N := (elN s).length) ?_ (fun i a _ h => Nat.lt_of_le_of_lt (prSt_le _ _ _ _ _) h) (elN s).length 0 _ (by omega) (diff_lt (cl_lt m R s)) ?_
  · intro i a hi ha h
    have h7 := elN_le s i
    have hbit : diff s (2 ^ row (elN s) i) < 2 ^ m := diff_lt hs
    have hp : 2 ^ row (elN s) i ≤ 2 ^ 7 := Nat.pow_le_pow_right (by decide) h7
    have hc8 := cl_256 (show m ≤ 8 by omega) R (diff s (2 ^ row (elN s) i))
    have ha8 := lt_256 (show m ≤ 8 by omega) ha
    have hlen := elN_length s
    refine Ev.step (f := fun k => (impl_ClosureOf.f k (m : Int) (cast R) ((diff s (2 ^ row (elN s) i) : Nat) : Int)).bind fun t => impl_proper.l0 k (s : Int) (Go.bits .andNot .i64 (a : Int) t) (cast (elN s)) ((cast (elN s)).length : Int) ((i + 1 : Nat) : Int) (m : Int) (cast R)) (fun k => ?_) ?_
    · simp only [impl_proper.l0]
      rw [if_pos (by rw [cast_length]; omega), if_pos (by omega), if_pos (by rw [cast_length]; omega), rd_row, if_pos (by omega), shl_one _ (by omega), andNot_nat (by omega) (by omega), wrap_succ hi (by omega)]
    · refine Ev.bind (clI4_val hm hR hb hbit hc) ?_
      rw [andNot_nat (by omega) (by omega)]
      exact h
  · intro b hbb _
    rw [fold_list (prSt m R s) (elN s) (elN s) 0 _ rfl] at hbb
    refine Ev.step (f := fun _ => some ((b : Int))) (fun k => ?_) ?_
    · simp only [impl_proper.l0]
      rw [if_neg (by rw [cast_length]; omega)]
    · rw [hbb]; exact Ev.now _
theorem newS_val {m : Nat} (hm : m ≤ 6) {R : List Nat} (hR : R.length ≤ 8) (hb : ∀ r ∈ R, r < 2 ^ m) {s : Nat} (hs : s < 2 ^ m) : Ev (fun k => spec_l12New.f k (m : Int) (cast R) (s : Int)) ((newN m R s : Nat) : Int) := by
  have hs8 := lt_256 (show m ≤ 8 by omega) hs
  have hrow := fun i => lt_256 (show m ≤ 8 by omega) (row_lt hb i)
  have hcs := cl_256 (show m ≤ 8 by omega) R s
  have hsub : cl m R s - s = diff (cl m R s) s := by
    rw [diff_eq_sub]
    have h1 := sub_cl (n := m) (rows := R) hs
    unfold sub at h1
    rw [Nat.and_comm, eq_of_beq h1]
  have hle : s ≤ cl m R s := sub_le (sub_cl hs)
  unfold spec_l12New.f
  refine Ev.bind (clS4_val m (by omega) R hR hrow s hs8) ?_
  rw [show wrap64 (((cl m R s : Nat) : Int) - (s : Int)) = ((diff (cl m R s) s : Nat) : Int) from by rw [← hsub]; unfold wrap64; omega]
  refine ev_fold (g := fun k (a : Nat) i => spec_l12New.l0 k (s : Int) (a : Int) i (m : Int) (cast R)) (bitFold m R s) (fun _ a => a < 2 ^ m) (N := m) ?_ (fun i a _ h => by unfold bitFold; split; exact Nat.lt_of_le_of_lt (prSt_le _ _ _ _ _) h; exact h) m 0 _ (by omega) (diff_lt (cl_lt m R s)) ?_
  · intro i a hi ha h
    have ha8 := lt_256 (show m ≤ 8 by omega) ha
    cases hbit : s.testBit i with
    | false =>
      unfold bitFold at h
      rw [if_neg (by rw [hbit]; decide)] at h
      refine Ev.step (fun k => ?_) h
      simp only [spec_l12New.l0]
      rw [if_pos (by omega), l2Has_val s i (by omega) (by omega), hbit, Option.bind_some, if_neg (by decide), wrap_succ hi (by omega)]
    | true =>
      unfold bitFold at h
      rw [if_pos hbit] at h
      have hp : 2 ^ i ≤ 2 ^ 7 := Nat.pow_le_pow_right (by decide) (by omega)
      have hd : diff s (2 ^ i) = s - 2 ^ i := by
        rw [diff_eq_sub]
        have : s &&& 2 ^ i = 2 ^ i := by
          apply Nat.eq_of_testBit_eq
          intro j
          rw [Nat.testBit_and, Nat.testBit_two_pow]
          by_cases e : i = j
          · subst e; rw [hbit]; simp
          · simp [e]
        rw [this]
      have hge : 2 ^ i ≤ s := Nat.ge_two_pow_of_testBit hbit
      have hw : ∀ p : Nat, p ≤ s → wrap64 ((s : Int) - (p : Int)) = ((s - p : Nat) : Int) := fun p hp => by unfold wrap64; omega
      have hbl : diff s (2 ^ i) < 2 ^ m := diff_lt hs
      have hc8 := cl_256 (show m ≤ 8 by omega) R (diff s (2 ^ i))
      refine Ev.step (f := fun k => (spec_l4Closure.f k (m : Int) (cast R) ((diff s (2 ^ i) : Nat) : Int)).bind fun t => spec_l12New.l0 k (s : Int) (wrap64 ((a : Int) - Go.bits .and .i64 (a : Int) t)) ((i + 1 : Nat) : Int) (m : Int) (cast R)) (fun k => ?_) ?_
      · simp only [spec_l12New.l0]
        rw [if_pos (by omega), l2Has_val s i (by omega) (by omega), hbit, Option.bind_some, if_pos rfl, wrapU_small _ (by omega) (by omega), if_pos (by omega), shl_one _ (by omega), (hw _ hge).trans (show ((s - 2 ^ i : Nat) : Int) = ((diff s (2 ^ i) : Nat) : Int) from by rw [hd]), wrap_succ hi (by omega)]
      · refine Ev.bind (clS4_val m (by omega) R hR hrow _ (lt_256 (by omega) hbl)) ?_
        rw [and_nat (by omega) (by omega)]
        have e : wrap64 ((a : Int) - ((a &&& cl m R (diff s (2 ^ i)) : Nat) : Int)) = ((prSt m R s a i : Nat) : Int) := by
          have : prSt m R s a i = a - (a &&& cl m R (diff s (2 ^ i))) := diff_eq_sub _ _
          have h2 : a &&& cl m R (diff s (2 ^ i)) ≤ a := Nat.and_le_left
          rw [this]
          unfold wrap64
          omega
        rw [e]
        exact h
  · intro b hbb _
    rw [fold_bitF, elN_range (by omega) hs] at hbb
    refine Ev.step (f := fun _ => some ((b : Int))) (fun k => ?_) ?_
    · simp only [spec_l12New.l0]
      rw [if_neg (by omega)]
    · rw [hbb]; exact Ev.now _
def prQ (m : Nat) (R : List Nat) (s : Nat) : Bool := decide (newN m R s ≠ 0)
def ppN (m : Nat) (R : List Nat) : List Nat := keptN m (prQ m R)
def ppV (n : Int) (l : List Int) : List Int := if ctxB n l = true then cast (ppN n.toNat (l.map Int.toNat)) else []
theorem ppV_len (n : Int) (l : List Int) : (ppV n l).length ≤ 256 := by
  unfold ppV
  split
  · rw [cast_length]; exact keptN_le
  · exact Nat.zero_le _
theorem ppI_val (n : Int) (l : List Int) : Ev (fun k => impl_ProperPremises.f k n l) (ppV n l) := by
  unfold impl_ProperPremises.f ppV
  rw [ctxI_val]
  simp only [Option.bind_some]
  cases hc : ctxB n l with
  | false => exact Ev.congr (fun k => by rw [if_neg (by decide), if_neg (by decide)]) (Ev.now _)
  | true =>
    obtain ⟨m, R, rfl, hm, rfl, hR, hb⟩ := ctxB_nat hc
    rw [Int.toNat_natCast, uncast, if_pos rfl]
    refine Ev.congr (fun k => by rw [if_pos rfl]) ?_
    refine Ev.bind (all_val (show m ≤ 8 by omega)) ?_
    have hp := pow_256 (show m ≤ 8 by omega)
    have hN : (allN m).length ≤ 256 := by rw [allN_length (by omega)]; exact hp
    refine ev_fold (g := fun k (a : List Nat) i => impl_ProperPremises.l0 k (cast a) (cast (allN m)) ((cast (allN m)).length : Int) i (m : Int) (cast R)) (keepStep (allN m) (prQ m R)) (fun i a => a.length ≤ i) (N := (allN m).length) ?_ (fun i a _ h => keep_len _ _ i a h) (allN m).length 0 [] (by omega) (Nat.le_refl _) ?_
    · intro i a hi hai h
      have hr := allN_row (show m ≤ 8 by omega) hi
      refine Ev.step (f := fun k => (impl_proper.f k (m : Int) (cast R) ((row (allN m) i : Nat) : Int)).bind fun t => if t = 0 then impl_ProperPremises.l0 k (cast a) (cast (allN m)) ((cast (allN m)).length : Int) ((i + 1 : Nat) : Int) (m : Int) (cast R) else impl_ProperPremises.l0 k (cast (a ++ [row (allN m) i])) (cast (allN m)) ((cast (allN m)).length : Int) ((i + 1 : Nat) : Int) (m : Int) (cast R)) (fun k => ?_) ?_
      · simp only [impl_ProperPremises.l0]
        rw [if_pos (by rw [cast_length]; omega), if_pos (by omega), if_pos (by rw [cast_length]; omega), rd_row, wrap_succ hi (by omega), if_pos (by rw [cast_length]; omega), castOne]
      · refine Ev.bind (newI_val hm hR hb hr hc) ?_
        unfold keepStep prQ at h
        by_cases e : newN m R (row (allN m) i) = 0
        · rw [if_neg (by rw [decide_eq_true_iff]; exact fun h => h e)] at h
          exact Ev.congr (fun k => by rw [if_pos (by rw [e]; rfl)]) h
        · rw [if_pos (decide_eq_true e)] at h
          exact Ev.congr (fun k => by rw [if_neg (by omega)]) h
    · intro b hbb _
      rw [keep_all, keptN_eq] at hbb
      subst hbb
      refine Ev.step (f := fun _ => some (cast (ppN m R))) (fun k => ?_) (Ev.now _)
      simp only [impl_ProperPremises.l0]
      rw [if_neg (by rw [cast_length]; omega)]
      rfl
theorem ppS_val (n : Int) (l : List Int) (hl : l.length ≤ 1048576) : Ev (fun k => spec_ProperPremises.f k n l) (ppV n l) := by
  unfold spec_ProperPremises.f ppV
  simp only [Option.bind_some]
  refine Ev.bind (ctxS_val n l (by omega)) ?_
  cases hc : ctxB n l with
  | false => exact Ev.congr (fun k => by rw [if_neg (by decide), if_neg (by decide)]) (Ev.now _)
  | true =>
    obtain ⟨m, R, rfl, hm, rfl, hR, hb⟩ := ctxB_nat hc
    rw [Int.toNat_natCast, uncast, if_pos rfl]
    refine Ev.congr (fun k => by rw [if_pos rfl]) ?_
    have hp := pow_256 (show m ≤ 8 by omega)
    have hp1 := Nat.two_pow_pos m
    refine ev_fold (g := fun k (a : List Nat) i => spec_ProperPremises.l0 k (cast a) i (m : Int) (cast R)) (rangeStep (prQ m R)) (fun i a => a.length ≤ i) (N := 2 ^ m) ?_ (fun i a _ h => rangeStep_len _ i a h) (2 ^ m) 0 [] (by omega) (Nat.le_refl _) ?_
    · intro i a hi hai h
      refine Ev.step (f := fun k => (spec_l12New.f k (m : Int) (cast R) (i : Int)).bind fun t => if t = 0 then spec_ProperPremises.l0 k (cast a) ((i + 1 : Nat) : Int) (m : Int) (cast R) else spec_ProperPremises.l0 k (cast (a ++ [i])) ((i + 1 : Nat) : Int) (m : Int) (cast R)) (fun k => ?_) ?_
      · simp only [spec_ProperPremises.l0]
        rw [fullS_val, fullV_nat (by omega), Option.bind_some, if_pos (by omega), if_pos (by rw [cast_length]; omega), castOne, show wrap64 ((i : Int) + 1) = ((i + 1 : Nat) : Int) from by unfold wrap64; omega]
      · refine Ev.bind (newS_val hm hR hb hi) ?_
        unfold rangeStep prQ at h
        by_cases e : newN m R i = 0
        · rw [if_neg (by rw [decide_eq_true_iff]; exact fun h => h e)] at h
          exact Ev.congr (fun k => by rw [if_pos (by rw [e]; rfl)]) h
        · rw [if_pos (decide_eq_true e)] at h
          exact Ev.congr (fun k => by rw [if_neg (by omega)]) h
    · intro b hbb hbl
      rw [range_all] at hbb
      subst hbb
      refine Ev.step (f := fun k => (spec_SortLectic.f k (cast ((List.range (2 ^ m)).filter (prQ m R)))).bind fun t => some t) (fun k => ?_) ?_
      · simp only [spec_ProperPremises.l0]
        rw [fullS_val, fullV_nat (by omega), Option.bind_some, if_neg (by omega)]
      · exact Ev.bind (sortS_val (filt_lt (by omega) _) (by omega)) (Ev.now _)
end Go.Proofs.YtafnamchckehmaaGreatDoor.Pu
namespace Go.Proofs.YtafnamchckehmaaGreatDoor.Pu
open Go.Proofs.YtafnamchckehmaaGreatDoor.Pr
theorem lecR_congr {A B : List Nat} (h : ∀ x, x ∈ A ↔ x ∈ B) : lecR A = lecR B := by
  unfold lecR
  exact lecF_congr fun s _ => decide_eq_decide.2 (h s)
def psN (m : Nat) (c : Nat → Nat) : List Nat := keptN m (isP c)
theorem lec_pl (c : Nat → Nat) (m : Nat) : lecR (pl c (2 ^ m)) = psN m c := by
  unfold psN keptN
  refine lecR_congr fun x => ?_
  rw [mem_pl, List.mem_filter, List.mem_range]
end Go.Proofs.YtafnamchckehmaaGreatDoor.Pu
namespace Go.Proofs.YtafnamchckehmaaGreatDoor.Pu
theorem clos_cl (m : Nat) (R : List Nat) : Clos m (cl m R) where
  lt := fun s _ => cl_lt m R s
  ext := fun _ hs => sub_cl hs
  mono := fun _ _ _ _ h => cl_mono h
  idem := fun _ hs => cl_idem hs
def within (m : Nat) (R : Rules) : Prop := ∀ r ∈ R, r.1 < 2 ^ m ∧ r.2 < 2 ^ m
theorem within_small {m : Nat} (hm : m ≤ 8) {R : Rules} (h : within m R) : small R := fun r hr => by
  have := pow_le_256 hm
  have := h r hr
  omega
theorem psN_pl {m : Nat} (hm : m ≤ 8) (c : Nat → Nat) : (psN m c).length = (pl c (2 ^ m)).length := by
  rw [← lec_pl, lecR_length (fun x hx => by have := (mem_pl.1 hx).1; have := pow_le_256 hm; omega) (pl_nodup c _)]
theorem base_least {m : Nat} {c : Nat → Nat} (C : Clos m c) (hm : m ≤ 8) {L : Rules} (hL : within m L) (h : ∀ s, s < 2 ^ m → clo L s = c s) : (psN m c).length ≤ L.length := by
  rw [psN_pl hm]
  exact stem_least C hm (within_small hm hL) h
end Go.Proofs.YtafnamchckehmaaGreatDoor.Pu
namespace Go.Proofs.YtafnamchckehmaaGreatDoor.Pu
theorem testBit_foldSt (m : Nat) (R : List Nat) (s i : Nat) : ∀ (L : List Nat) (o : Nat), (L.foldl (prSt m R s) o).testBit i = true ↔ o.testBit i = true ∧ ∀ e ∈ L, (cl m R (diff s (2 ^ e))).testBit i = false := by
  intro L
  induction L with
  | nil => intro o; simp
  | cons x L ih =>
    intro o
    rw [List.foldl_cons, ih]
    unfold prSt
    rw [testBit_diff, Bool.and_eq_true, Bool.not_eq_true']
    constructor
    · rintro ⟨⟨h1, h2⟩, h3⟩
      refine ⟨h1, fun e he => ?_⟩
      rcases List.mem_cons.1 he with rfl | he
      · exact h2
      · exact h3 e he
    · rintro ⟨h1, h2⟩
      exact ⟨⟨h1, h2 x List.mem_cons_self⟩, fun e he => h2 e (List.mem_cons_of_mem _ he)⟩
theorem testBit_new {m : Nat} {R : List Nat} {s i : Nat} : (newN m R s).testBit i = true ↔ (cl m R s).testBit i = true ∧ s.testBit i = false ∧ ∀ e ∈ elN s, (cl m R (diff s (2 ^ e))).testBit i = false := by
  unfold newN
  rw [testBit_foldSt, testBit_diff, Bool.and_eq_true, Bool.not_eq_true', and_assoc]
theorem mem_elN {s e : Nat} (hs : s < 256) : e ∈ elN s ↔ s.testBit e = true := by
  unfold elN
  rw [List.mem_filter, List.mem_range]
  exact ⟨fun h => h.2, fun h => ⟨pow_bit (m := 8) hs h, h⟩⟩
theorem sub_without (s e : Nat) : sub (diff s (2 ^ e)) s = true := sub_iff.2 fun i hi => by
  rw [testBit_diff, Bool.and_eq_true] at hi
  exact hi.1
theorem without_lt {s e : Nat} (h : s.testBit e = true) : diff s (2 ^ e) < s := by
  have h1 := sub_le (sub_without s e)
  rcases Nat.lt_or_ge (diff s (2 ^ e)) s with k | k
  · exact k
  · have e1 : diff s (2 ^ e) = s := by omega
    have e2 := congrArg (fun x => Nat.testBit x e) e1
    simp [testBit_diff, h] at e2
theorem proper_ex {m : Nat} (hm : m ≤ 8) (R : List Nat) (i : Nat) : ∀ (k s : Nat), s < k → s < 2 ^ m → (cl m R s).testBit i = true → ∀ t, sub s t = true → t.testBit i = false → ∃ q, q < 2 ^ m ∧ sub q t = true ∧ (newN m R q).testBit i = true := by
  intro k
  induction k with
  | zero => intro s h; omega
  | succ k ih =>
    intro s hk hs hc t ht hi
    have hs8 : s < 256 := Nat.lt_of_lt_of_le hs (pow_le_256 hm)
    by_cases h : ∀ e ∈ elN s, (cl m R (diff s (2 ^ e))).testBit i = false
    · refine ⟨s, hs, ht, testBit_new.2 ⟨hc, ?_, h⟩⟩
      cases hb : s.testBit i with
      | false => rfl
      | true => rw [sub_iff.1 ht i hb] at hi; cases hi
    · simp only [Classical.not_forall] at h
      obtain ⟨e, he, hn⟩ := h
      have hlt := without_lt ((mem_elN hs8).1 he)
      exact ih (diff s (2 ^ e)) (by omega) (by omega) (by simpa using hn) t (sub_trans (sub_without s e) ht) hi
def dbR (m : Nat) (R : List Nat) : Rules := (ppN m R).map fun s => (s, newN m R s)
theorem mem_dbR {m : Nat} (hm : m ≤ 8) {R : List Nat} {r : Nat × Nat} : r ∈ dbR m R ↔ r.1 < 2 ^ m ∧ newN m R r.1 ≠ 0 ∧ r.2 = newN m R r.1 := by
  unfold dbR
  rw [List.mem_map]
  constructor
  · rintro ⟨p, hp, rfl⟩
    obtain ⟨h1, h2⟩ := (mem_keptN hm).1 hp
    unfold prQ at h2
    exact ⟨h1, by simpa using h2, rfl⟩
  · rintro ⟨h1, h2, h3⟩
    exact ⟨r.1, (mem_keptN hm).2 ⟨h1, by unfold prQ; simpa using h2⟩, by rw [← h3]⟩
theorem dbR_length (m : Nat) (R : List Nat) : (dbR m R).length = (ppN m R).length := List.length_map ..
theorem within_dbR {m : Nat} (hm : m ≤ 8) (R : List Nat) : within m (dbR m R) := fun r hr => by
  obtain ⟨h1, _, h3⟩ := (mem_dbR hm).1 hr
  exact ⟨h1, by rw [h3]; exact newN_lt R _⟩
theorem step_db {m : Nat} (hm : m ≤ 8) (R : List Nat) {t : Nat} (ht : t < 2 ^ m) : step (dbR m R) t = cl m R t := by
  refine sub_antisymm ?_ (sub_iff.2 fun i hi => ?_)
  · refine (fold_spec (dbR m R) t t).2.2 _ (sub_cl ht) fun r hr hsub => ?_
    obtain ⟨h1, _, h3⟩ := (mem_dbR hm).1 hr
    rw [h3]
    refine sub_iff.2 fun i hi => ?_
    exact sub_iff.1 (cl_mono hsub) i (testBit_new.1 hi).1
  · cases hb : t.testBit i with
    | true => exact sub_iff.1 (sub_step _ t) i hb
    | false =>
      obtain ⟨q, h1, h2, h3⟩ := proper_ex hm R i (t + 1) t (by omega) ht hi t (sub_refl t) hb
      have hne : newN m R q ≠ 0 := by
        intro e
        rw [e, Nat.zero_testBit] at h3
        cases h3
      exact sub_iff.1 ((fold_spec (dbR m R) t t).2.1 (q, newN m R q) ((mem_dbR hm).2 ⟨h1, hne, rfl⟩) h2) i h3
theorem clo_db {m : Nat} (hm : m ≤ 8) (R : List Nat) {t : Nat} (ht : t < 2 ^ m) : clo (dbR m R) t = cl m R t := by
  have hs := within_small hm (within_dbR hm R)
  have h256 := pow_le_256 hm
  have hc := cl_lt m R t
  rw [← clo_step hs (by omega), step_db hm R ht, clo_fix hs (by omega), ← step_fix, step_db hm R hc, cl_idem ht]
theorem db_least {m : Nat} (hm : m ≤ 8) (R : List Nat) : (psN m (cl m R)).length ≤ (ppN m R).length := by
  rw [← dbR_length]
  exact base_least (clos_cl m R) hm (within_dbR hm R) fun s hs => clo_db hm R hs
end Go.Proofs.YtafnamchckehmaaGreatDoor.Pu
namespace Go.Proofs.YtafnamchckehmaaGreatDoor.Pu
open Go.RowKit Go.Proofs.YtafnamchckehmaaGreatDoorW.PrintWords Go.Proofs.YtafnamchckehmaaGreatDoorW.PrintLast Go.Proofs.YtafnamchckehmaaGreatDoorW.PrintMore Go.Proofs.YtafnamchckehmaaGreatDoor.Pr
def okP (c : Nat → Nat) (s p : Nat) : Bool := !sub p s || sub (c p) s
def plStep (c : Nat → Nat) (s : Nat) (a : List Nat) : List Nat := if (decide (c s ≠ s) && a.all (okP c s)) = true then a ++ [s] else a
theorem pl_fold (c : Nat → Nat) : ∀ N, foldIdx (plStep c) 0 N [] = pl c N
  | 0 => foldIdx_end _ (Nat.le_refl _) _
  | N + 1 => by rw [foldIdx_last _ (Nat.zero_le _), pl_fold c N]; rfl
theorem plStep_inv (c : Nat → Nat) (s : Nat) (a : List Nat) (h : (∀ p ∈ a, p < s) ∧ a.length ≤ s) : (∀ p ∈ plStep c s a, p < s + 1) ∧ (plStep c s a).length ≤ s + 1 := by
  unfold plStep
  split
  · refine ⟨fun p hp => ?_, by rw [List.length_append, List.length_singleton]; omega⟩
    rcases List.mem_append.1 hp with h1 | h1
    · have := h.1 p h1; omega
    · rw [List.mem_singleton] at h1; omega
  · exact ⟨fun p hp => by have := h.1 p hp; omega, by omega⟩
theorem psS_inner {m : Nat} (hm : m ≤ 8) {R : List Nat} (hR : R.length ≤ 8) (hrow : ∀ i, row R i < 256) {s : Nat} (hs : s < 256) {a : List Nat} (ha : ∀ p ∈ a, p < 256) (hal : a.length ≤ 256) {res : List Int} :
    ∀ (rest : List Nat) (i : Nat) (f : Bool), a.drop i = rest → Ev (fun k => spec_l10Pseudo.l0 k (cast (if (f && rest.all (okP (cl m R) s)) = true then a ++ [s] else a)) ((s + 1 : Nat) : Int) (m : Int) (cast R)) res →
      Ev (fun k => spec_l10Pseudo.l1 k (cast a) (s : Int) f (i : Int) (m : Int) (cast R)) res := by
  intro rest
  induction rest with
  | nil =>
    intro i f h hE
    have hle := drop_nil h
    refine Ev.step (fun k => ?_) hE
    simp only [spec_l10Pseudo.l1]
    rw [if_neg (by rw [cast_length]; omega), show wrap64 ((s : Int) + 1) = ((s + 1 : Nat) : Int) from by unfold wrap64; omega]
    cases f with
    | false => rw [if_neg (by decide), if_neg (by simp)]
    | true => rw [if_pos rfl, if_pos (by rw [cast_length]; omega), if_pos (by simp), castOne]
  | cons p rest ih =>
    intro i f h hE
    obtain ⟨hi, hx, hd⟩ := drop_cons (d := 0) h
    have hp : p < 256 := ha p (by rw [← hx, List.getD_eq_getElem?_getD, List.getElem?_eq_getElem hi]; exact List.getElem_mem _)
    have hclp : cl m R p < 256 := cl_256 hm R p
    cases f with
    | false =>
      refine Ev.step (fun k => ?_) (ih (i + 1) false hd (by rw [Bool.false_and] at hE ⊢; exact hE))
      simp only [spec_l10Pseudo.l1]
      rw [if_pos (by rw [cast_length]; omega), if_neg (by decide), wrap_succ hi (by omega)]
    | true =>
      by_cases hsub : sub p s = true
      · have e : okP (cl m R) s p = sub (cl m R p) s := by unfold okP; rw [hsub]; rfl
        rw [Bool.true_and, List.all_cons, e] at hE
        have hih := ih (i + 1) (sub (cl m R p) s) hd hE
        refine Ev.step (f := fun k => (spec_l4Closure.f k (m : Int) (cast R) (p : Int)).bind fun t => (spec_l4Closure.f k (m : Int) (cast R) (p : Int)).bind fun u => spec_l10Pseudo.l1 k (cast a) (s : Int) (Go.bits .and .i64 t (s : Int) == u) ((i + 1 : Nat) : Int) (m : Int) (cast R)) (fun k => ?_) ?_
        · simp only [spec_l10Pseudo.l1]
          rw [if_pos (by rw [cast_length]; omega), if_pos trivial, if_pos (by omega), rdCast, hx, if_pos ((and_is' hp hs).2 hsub), wrap_succ hi (by omega)]
        · refine Ev.bind (clS4_val m hm R hR hrow p hp) ?_
          refine Ev.bind (clS4_val m hm R hR hrow p hp) ?_
          rw [show (Go.bits .and .i64 ((cl m R p : Nat) : Int) (s : Int) == ((cl m R p : Nat) : Int)) = sub (cl m R p) s from by rw [Bool.eq_iff_iff, beq_iff_eq]; exact and_is' hclp hs]
          exact hih
      · have e : okP (cl m R) s p = true := by unfold okP; rw [Bool.not_eq_true] at hsub; rw [hsub]; rfl
        rw [Bool.true_and, List.all_cons, e, Bool.true_and] at hE
        refine Ev.step (fun k => ?_) (ih (i + 1) true hd (by rw [Bool.true_and]; exact hE))
        simp only [spec_l10Pseudo.l1]
        rw [if_pos (by rw [cast_length]; omega), if_pos trivial, if_pos (by omega), rdCast, hx, if_neg (fun h => hsub ((and_is' hp hs).1 h)), wrap_succ hi (by omega)]
theorem psS_val {m : Nat} (hm : m ≤ 6) {R : List Nat} (hR : R.length ≤ 8) (hrow : ∀ i, row R i < 256) : Ev (fun k => spec_l10Pseudo.f k (m : Int) (cast R)) (cast (psN m (cl m R))) := by
  have hp := pow_256 (show m ≤ 8 by omega)
  have hp1 := Nat.two_pow_pos m
  unfold spec_l10Pseudo.f
  refine ev_fold (g := fun k (a : List Nat) i => spec_l10Pseudo.l0 k (cast a) i (m : Int) (cast R)) (plStep (cl m R)) (fun i a => (∀ p ∈ a, p < i) ∧ a.length ≤ i) (N := 2 ^ m) ?_ (fun i a _ h => plStep_inv _ i a h) (2 ^ m) 0 [] (by omega) ⟨(fun p hp => by cases hp), Nat.le_refl _⟩ ?_
  · intro i a hi ha h
    refine Ev.step (f := fun k => (spec_l4Closure.f k (m : Int) (cast R) (i : Int)).bind fun t => if t = (i : Int) then spec_l10Pseudo.l0 k (cast a) ((i + 1 : Nat) : Int) (m : Int) (cast R) else spec_l10Pseudo.l1 k (cast a) (i : Int) true 0 (m : Int) (cast R)) (fun k => ?_) ?_
    · simp only [spec_l10Pseudo.l0]
      rw [fullS_val, fullV_nat (by omega), Option.bind_some, if_pos (by omega), show wrap64 ((i : Int) + 1) = ((i + 1 : Nat) : Int) from by unfold wrap64; omega]
    · refine Ev.bind (clS4_val m (by omega) R hR hrow i (by omega)) ?_
      by_cases e : cl m R i = i
      · unfold plStep at h
        rw [decide_eq_false (fun h => h e), Bool.false_and, if_neg (by decide)] at h
        exact Ev.congr (fun k => by rw [if_pos (by rw [e])]) h
      · unfold plStep at h
        rw [decide_eq_true e] at h
        refine Ev.congr (fun k => by rw [if_neg (by omega)]) ?_
        exact psS_inner (by omega) hR hrow (by omega) (fun p hp => by have := ha.1 p hp; omega) (by omega) a 0 true rfl h
  · intro b hbb hinv
    rw [pl_fold] at hbb
    subst hbb
    refine Ev.step (f := fun k => (spec_SortLectic.f k (cast (pl (cl m R) (2 ^ m)))).bind fun t => some t) (fun k => ?_) ?_
    · simp only [spec_l10Pseudo.l0]
      rw [fullS_val, fullV_nat (by omega), Option.bind_some, if_neg (by omega)]
    · refine Ev.bind (sortS_val (fun x hx => by have := hinv.1 x hx; omega) (by omega)) ?_
      rw [lec_pl]
      exact Ev.now _
def piV (n : Int) (l : List Int) : List Int := if ctxB n l = true then cast (psN n.toNat (cl n.toNat (l.map Int.toNat))) else []
theorem piV_len (n : Int) (l : List Int) : (piV n l).length ≤ 256 := by
  unfold piV
  split
  · rw [cast_length]; exact keptN_le
  · simp
end Go.Proofs.YtafnamchckehmaaGreatDoor.Pu
namespace Go.Proofs.YtafnamchckehmaaGreatDoor.Pu
open Go.RowKit Go.Proofs.YtafnamchckehmaaGreatDoorW.PrintWords Go.Proofs.YtafnamchckehmaaGreatDoorW.PrintLast Go.Proofs.YtafnamchckehmaaGreatDoorW.PrintMore Go.Proofs.YtafnamchckehmaaGreatDoor.Pr
theorem any_map {P : List Nat} {f : Nat → Nat} {fv : Int → Int} (hf : ∀ s ∈ P, fv (s : Int) = ((f s : Nat) : Int)) (h : ∀ s ∈ P, s < 256 ∧ f s < 256) : (ruleMap fv (cast P)).all anyR = true := by
  refine List.all_eq_true.2 fun r hr => ?_
  unfold ruleMap at hr
  obtain ⟨x, hx, rfl⟩ := List.mem_map.1 hr
  obtain ⟨s, hs, rfl⟩ := List.mem_map.1 (show x ∈ P.map fun (x : Nat) => (x : Int) from hx)
  have := h s hs
  unfold anyR isAny
  dsimp only
  rw [hf s hs, Bool.and_eq_true, decide_eq_true_iff, decide_eq_true_iff]
  omega
theorem toR_map {P : List Nat} {f : Nat → Nat} {fv : Int → Int} (hf : ∀ s ∈ P, fv (s : Int) = ((f s : Nat) : Int)) : toR (ruleMap fv (cast P)) = P.map fun s => (s, f s) := by
  have e : cast P = P.map fun (x : Nat) => (x : Int) := rfl
  unfold toR ruleMap
  rw [e, List.map_map, List.map_map]
  refine List.map_congr_left fun s hs => ?_
  show toP ⟨(s : Int), fv (s : Int)⟩ = (s, f s)
  rw [hf s hs]
  rfl
theorem ruleMap_length (fv : Int → Int) (l : List Int) : (ruleMap fv l).length = l.length := List.length_map ..
end Go.Proofs.YtafnamchckehmaaGreatDoor.Pu
namespace Go.Proofs.YtafnamchckehmaaGreatDoor.Pu
open Go.RowKit Go.Proofs.YtafnamchckehmaaGreatDoorW.PrintWords Go.Proofs.YtafnamchckehmaaGreatDoorW.PrintLast Go.Proofs.YtafnamchckehmaaGreatDoorW.PrintMore Go.Proofs.YtafnamchckehmaaGreatDoor.Pr
theorem clofS_val {m : Nat} (hm : m ≤ 6) {R : List Nat} (hR : R.length ≤ 8) (hb : ∀ r ∈ R, r < 2 ^ m) (hc : ctxB (m : Int) (cast R) = true) {a : Nat} (ha : a < 2 ^ m) : Ev (fun k => spec_ClosureOf.f k (m : Int) (cast R) (a : Int)) ((cl m R a : Nat) : Int) := by
  have hrow := fun i => lt_256 (show m ≤ 8 by omega) (row_lt hb i)
  unfold spec_ClosureOf.f
  refine Ev.bind (ctxS_val _ _ (by rw [cast_length]; omega)) ?_
  rw [hc]
  refine Ev.congr (fun k => by rw [if_pos rfl, specSet_val, isSetB_mk (by omega) ha, Option.bind_some, if_pos rfl]) ?_
  exact Ev.bind (clS4_val m (by omega) R hR hrow a (lt_256 (show m ≤ 8 by omega) ha)) (Ev.now _)
end Go.Proofs.YtafnamchckehmaaGreatDoor.Pu
namespace Go.Proofs.YtafnamchckehmaaGreatDoor.Pu
open Go.RowKit Go.Proofs.YtafnamchckehmaaGreatDoorW.PrintWords Go.Proofs.YtafnamchckehmaaGreatDoorW.PrintLast Go.Proofs.YtafnamchckehmaaGreatDoorW.PrintMore Go.Proofs.YtafnamchckehmaaGreatDoor.Pr
theorem anyR_rest {l rest : List IR} {i : Nat} {x : IR} (h : l.drop i = x :: rest) (ha : l.all anyR = true) : anyR x = true :=
  List.all_eq_true.1 ha x (List.mem_of_mem_drop (i := i) (by rw [h]; exact List.mem_cons_self))
theorem stepS_loop (l : List IR) (hl : l.length ≤ 9223372036854775807) (ha : l.all anyR = true) (s : Nat) (hs : s < 256) : ∀ (rest : List IR) (i out : Nat), l.drop i = rest → out < 256 →
    Ev (fun k => spec_l12Step.l0 k l (s : Int) (out : Int) (i : Int)) (((toR rest).foldl (fun o r => if sub r.1 s then o ||| r.2 else o) out : Nat) : Int) := by
  intro rest
  induction rest with
  | nil =>
    intro i out h ho
    have := drop_nil h
    refine Ev.step (f := fun _ => some (out : Int)) (fun k => ?_) (Ev.now _)
    simp only [spec_l12Step.l0]
    rw [if_neg (by omega)]
  | cons x rest ih =>
    intro i out h ho
    obtain ⟨hi, hx, hr⟩ := drop_cons (d := z48) h
    obtain ⟨e1, e2, h1, h2⟩ := anyR_nat (anyR_rest h ha)
    rw [show toR (x :: rest) = toP x :: toR rest from rfl, List.foldl_cons]
    cases hc : sub (toP x).1 s with
    | true =>
      refine Ev.step (f := fun k => spec_l12Step.l0 k l (s : Int) ((out ||| (toP x).2 : Nat) : Int) ((i + 1 : Nat) : Int)) (fun k => ?_) (ih (i + 1) (out ||| (toP x).2) hr (or256 ho h2))
      simp only [spec_l12Step.l0]
      rw [if_pos (by omega), if_pos (by omega), rdR, hx, e1, e2, if_pos ((and_eq_sub h1 hs).2 hc), or_nat (by omega) (by omega), wrap_succ hi hl]
    | false =>
      refine Ev.step (f := fun k => spec_l12Step.l0 k l (s : Int) (out : Int) ((i + 1 : Nat) : Int)) (fun k => ?_) (ih (i + 1) out hr ho)
      simp only [spec_l12Step.l0]
      rw [if_pos (by omega), if_pos (by omega), rdR, hx, e1, if_neg (by rw [and_eq_sub h1 hs, hc]; decide), wrap_succ hi hl]
theorem stepS_val (l : List IR) (hl : l.length ≤ 9223372036854775807) (ha : l.all anyR = true) (s : Nat) (hs : s < 256) : Ev (fun k => spec_l12Step.f k l (s : Int)) ((step (toR l) s : Nat) : Int) := stepS_loop l hl ha s hs l 0 s rfl hs
theorem stepI_loop (l : List IR) (hl : l.length ≤ 9223372036854775807) (ha : l.all anyR = true) (s : Nat) (hs : s < 256) : ∀ (rest : List IR) (i out : Nat), l.drop i = rest → out < 256 →
    Ev (fun k => impl_OneStep.l0 k (s : Int) (out : Int) l (l.length : Int) (i : Int)) (((toR rest).foldl (fun o r => if sub r.1 s then o ||| r.2 else o) out : Nat) : Int) := by
  intro rest
  induction rest with
  | nil =>
    intro i out h ho
    have := drop_nil h
    refine Ev.step (f := fun _ => some (out : Int)) (fun k => ?_) (Ev.now _)
    simp only [impl_OneStep.l0]
    rw [if_neg (by omega)]
  | cons x rest ih =>
    intro i out h ho
    obtain ⟨hi, hx, hr⟩ := drop_cons (d := z48) h
    obtain ⟨e1, e2, h1, h2⟩ := anyR_nat (anyR_rest h ha)
    rw [show toR (x :: rest) = toP x :: toR rest from rfl, List.foldl_cons]
    cases hc : sub (toP x).1 s with
    | true =>
      refine Ev.step (f := fun k => impl_OneStep.l0 k (s : Int) ((out ||| (toP x).2 : Nat) : Int) l (l.length : Int) ((i + 1 : Nat) : Int)) (fun k => ?_) (ih (i + 1) (out ||| (toP x).2) hr (or256 ho h2))
      simp only [impl_OneStep.l0]
      rw [if_pos (by omega), if_pos (by omega), if_pos (by omega), rdR, hx, e1, e2, inSet_val h1 hs, hc, Option.bind_some, if_pos rfl, or_nat (by omega) (by omega), wrap_succ hi hl]
    | false =>
      refine Ev.step (f := fun k => impl_OneStep.l0 k (s : Int) (out : Int) l (l.length : Int) ((i + 1 : Nat) : Int)) (fun k => ?_) (ih (i + 1) out hr ho)
      simp only [impl_OneStep.l0]
      rw [if_pos (by omega), if_pos (by omega), if_pos (by omega), rdR, hx, e1, inSet_val h1 hs, hc, Option.bind_some, if_neg (by decide), wrap_succ hi hl]
def stepV (l : List IR) (s : Int) : Int := if l.all anyR && isAny s then ((step (toR l) s.toNat : Nat) : Int) else s
theorem oneI_val (l : List IR) (hl : l.length ≤ 9223372036854775807) (s : Int) : Ev (fun k => impl_OneStep.f k l s) (stepV l s) := by
  unfold impl_OneStep.f impl_areAnyRules.f stepV
  rw [any_val]
  simp only [Option.bind_some]
  cases hs : isAny s with
  | false =>
    rw [Bool.and_false]
    refine Ev.congr (fun k => ?_) (Ev.step (f := fun _ => some s) (g := fun k => impl_OneStep.j0 k l s true) (fun k => ?_) (Ev.now s))
    · rw [if_neg (by decide)]
    · simp only [impl_OneStep.j0, if_true]
  | true =>
    obtain ⟨n, hn, rfl⟩ := isAny_nat hs
    cases ha : l.all anyR with
    | false =>
      refine Ev.congr (fun k => ?_) (Ev.step (f := fun _ => some (n : Int)) (g := fun k => impl_OneStep.j0 k l (n : Int) true) (fun k => ?_) (Ev.now _))
      · rw [if_pos rfl]; rfl
      · simp only [impl_OneStep.j0, if_true]
    | true =>
      rw [Bool.and_true, if_pos rfl, Int.toNat_natCast]
      refine Ev.congr (fun k => ?_) (Ev.step (g := fun k => impl_OneStep.j0 k l (n : Int) false) (fun k => ?_) (stepI_loop l hl ha n hn l 0 n rfl hn))
      · rw [if_pos rfl]; rfl
      · simp only [impl_OneStep.j0]; rw [if_neg (by decide)]; rfl
theorem oneS_val (l : List IR) (hl : l.length ≤ 9223372036854775807) (s : Int) : Ev (fun k => spec_OneStep.f k l s) (stepV l s) := by
  unfold spec_OneStep.f stepV
  rw [specSet_val, isSetB_8]
  refine Ev.bind (sets_val l hl) ?_
  cases ha : l.all anyR with
  | false => exact Ev.congr (fun k => by rw [if_neg (by decide)]; rfl) (Ev.now _)
  | true =>
    cases hs : isAny s with
    | false => exact Ev.congr (fun k => by rw [if_pos rfl, Option.bind_some, if_neg (by decide)]; rfl) (Ev.now _)
    | true =>
      obtain ⟨n, hn, rfl⟩ := isAny_nat hs
      rw [Int.toNat_natCast]
      refine Ev.congr (fun k => by rw [if_pos rfl, Option.bind_some, if_pos rfl]) ?_
      exact Ev.bind (stepS_val l hl ha n hn) (Ev.now _)
theorem clS_inner (l : List IR) (hl : l.length ≤ 9223372036854775807) (ha : l.all anyR = true) (res : Int) : ∀ (rest : List IR) (i s : Nat) (ch : Bool), l.drop i = rest → s < 256 →
    Ev (fun k => spec_l9Closed.l0 k l (((sweep (toR rest) (s, ch)).1 : Nat) : Int) (sweep (toR rest) (s, ch)).2) res → Ev (fun k => spec_l9Closed.l1 k l (s : Int) ch (i : Int)) res := by
  intro rest
  induction rest with
  | nil =>
    intro i s ch h hs he
    have := drop_nil h
    refine Ev.step (fun k => ?_) he
    simp only [spec_l9Closed.l1]
    rw [if_neg (by omega)]
    rfl
  | cons x rest ih =>
    intro i s ch h hs he
    obtain ⟨hi, hx, hr⟩ := drop_cons (d := z48) h
    obtain ⟨e1, e2, h1, h2⟩ := anyR_nat (anyR_rest h ha)
    rw [show sweep (toR (x :: rest)) (s, ch) = sweep (toR rest) (if sub (toP x).1 s && !sub (toP x).2 s then (s ||| (toP x).2, true) else (s, ch)) from rfl] at he
    cases hc : sub (toP x).1 s with
    | false =>
      rw [hc, Bool.false_and, if_neg (by decide)] at he
      refine Ev.step (fun k => ?_) (ih (i + 1) s ch hr hs he)
      simp only [spec_l9Closed.l1]
      rw [if_pos (by omega), if_pos (by omega), rdR, hx, e1, if_neg (by rw [and_eq_sub h1 hs, hc]; decide), wrap_succ hi hl]
    | true =>
      cases hd : sub (toP x).2 s with
      | true =>
        rw [hc, hd, if_neg (by decide)] at he
        refine Ev.step (fun k => ?_) (ih (i + 1) s ch hr hs he)
        simp only [spec_l9Closed.l1]
        rw [if_pos (by omega), if_pos (by omega), rdR, hx, e1, e2, if_pos ((and_eq_sub h1 hs).2 hc), if_pos ((and_eq_sub h2 hs).2 hd), wrap_succ hi hl]
      | false =>
        rw [hc, hd, if_pos (by decide)] at he
        refine Ev.step (fun k => ?_) (ih (i + 1) (s ||| (toP x).2) true hr (or256 hs h2) he)
        simp only [spec_l9Closed.l1]
        rw [if_pos (by omega), if_pos (by omega), rdR, hx, e1, e2, if_pos ((and_eq_sub h1 hs).2 hc), if_neg (by rw [and_eq_sub h2 hs, hd]; decide), or_nat (by omega) (by omega), wrap_succ hi hl]
theorem clS_loop (l : List IR) (hl : l.length ≤ 9223372036854775807) (ha : l.all anyR = true) : ∀ (d s : Nat), s < 256 → 256 - s ≤ d → Ev (fun k => spec_l9Closed.l0 k l (s : Int) true) ((clo (toR l) s : Nat) : Int) := by
  have hR := toR_small ha
  intro d
  induction d with
  | zero => intro s hs hd; omega
  | succ d ih =>
    intro s hs hd
    refine Ev.step (g := fun k => spec_l9Closed.l0 k l (s : Int) true) (f := fun k => spec_l9Closed.l1 k l (s : Int) false ((0 : Nat) : Int)) (fun k => by simp only [spec_l9Closed.l0, if_true]; rfl) ?_
    refine clS_inner l hl ha _ l 0 s false rfl hs ?_
    obtain ⟨a, b, c, e, f⟩ := sweep_spec (toR l) (s, false)
    have hlt := b (fun r hr => (hR r hr).2) hs
    generalize hq : sweep (toR l) (s, false) = q at *
    obtain ⟨s', ch'⟩ := q
    cases ch' with
    | false =>
      obtain ⟨_, h2, h3⟩ := e rfl
      have h2' : s' = s := h2
      subst h2'
      rw [(clo_fix hR hs).2 h3]
      exact Ev.step (f := fun _ => some (s' : Int)) (fun k => by simp only [spec_l9Closed.l0]; rw [if_neg (by decide)]) (Ev.now _)
    | true =>
      have hgt : s < s' := f rfl rfl
      have := ih s' hlt (by omega)
      rwa [clo_of_between hR hs hlt a c] at this
theorem clS_val (l : List IR) (hl : l.length ≤ 9223372036854775807) (ha : l.all anyR = true) (s : Nat) (hs : s < 256) : Ev (fun k => spec_l9Closed.f k l (s : Int)) ((clo (toR l) s : Nat) : Int) := clS_loop l hl ha _ s hs (Nat.le_refl _)
def cloV (l : List IR) (s : Int) : Int := if l.all anyR && isAny s then ((clo (toR l) s.toNat : Nat) : Int) else s
theorem stepV_nat {l : List IR} (ha : l.all anyR = true) {s : Nat} (hs : s < 256) : stepV l (s : Int) = ((step (toR l) s : Nat) : Int) := by
  unfold stepV
  rw [ha, show isAny (s : Int) = true from decide_eq_true (by omega), if_pos (by decide), Int.toNat_natCast]
theorem clI_loop (l : List IR) (hl : l.length ≤ 9223372036854775807) (ha : l.all anyR = true) : ∀ (d s : Nat), s < 256 → 256 - s ≤ d → Ev (fun k => impl_ClosedBy.l0 k l (s : Int) ((step (toR l) s : Nat) : Int)) ((clo (toR l) s : Nat) : Int) := by
  have hR := toR_small ha
  intro d
  induction d with
  | zero => intro s hs hd; omega
  | succ d ih =>
    intro s hs hd
    have hlt := step_lt hR hs
    by_cases e : step (toR l) s = s
    · refine Ev.step (f := fun _ => some (s : Int)) (fun k => ?_) ?_
      · simp only [impl_ClosedBy.l0]; rw [if_pos (by rw [e])]
      · rw [(clo_fix hR hs).2 (step_fix.1 e)]; exact Ev.now _
    · have hgt : s < step (toR l) s := by have := sub_le (sub_step (toR l) s); omega
      refine Ev.step (f := fun k => (impl_OneStep.f k l ((step (toR l) s : Nat) : Int)).bind fun t => impl_ClosedBy.l0 k l ((step (toR l) s : Nat) : Int) t) (fun k => ?_) ?_
      · simp only [impl_ClosedBy.l0]; rw [if_neg (by omega)]
      · refine Ev.bind (oneI_val l hl _) ?_
        rw [stepV_nat ha hlt, ← clo_step hR hs]
        exact ih _ hlt (by omega)
theorem closedI_val (l : List IR) (hl : l.length ≤ 9223372036854775807) (s : Int) : Ev (fun k => impl_ClosedBy.f k l s) (cloV l s) := by
  unfold impl_ClosedBy.f impl_areAnyRules.f cloV
  rw [any_val]
  simp only [Option.bind_some]
  cases hs : isAny s with
  | false =>
    rw [Bool.and_false]
    refine Ev.congr (fun k => ?_) (Ev.step (f := fun _ => some s) (g := fun k => impl_ClosedBy.j0 k l s true) (fun k => ?_) (Ev.now s))
    · rw [if_neg (by decide)]
    · simp only [impl_ClosedBy.j0, if_true]
  | true =>
    obtain ⟨n, hn, rfl⟩ := isAny_nat hs
    cases ha : l.all anyR with
    | false =>
      refine Ev.congr (fun k => ?_) (Ev.step (f := fun _ => some (n : Int)) (g := fun k => impl_ClosedBy.j0 k l (n : Int) true) (fun k => ?_) (Ev.now _))
      · rw [if_pos rfl]; rfl
      · simp only [impl_ClosedBy.j0, if_true]
    | true =>
      rw [Bool.and_true, if_pos rfl, Int.toNat_natCast]
      refine Ev.congr (fun k => ?_) (Ev.step (g := fun k => impl_ClosedBy.j0 k l (n : Int) false) (f := fun k => (impl_OneStep.f k l (n : Int)).bind fun t => impl_ClosedBy.l0 k l (n : Int) t) (fun k => ?_) ?_)
      · rw [if_pos rfl]; rfl
      · simp only [impl_ClosedBy.j0]; rw [if_neg (by decide)]
      · refine Ev.bind (oneI_val l hl _) ?_
        rw [stepV_nat ha hn]
        exact clI_loop l hl ha _ n hn (Nat.le_refl _)
theorem cloV_nat {l : List IR} (ha : l.all anyR = true) {s : Nat} (hs : s < 256) : cloV l (s : Int) = ((clo (toR l) s : Nat) : Int) := by
  unfold cloV
  rw [ha, show isAny (s : Int) = true from decide_eq_true (by omega), if_pos (by decide), Int.toNat_natCast]
end Go.Proofs.YtafnamchckehmaaGreatDoor.Pu
namespace Go.Proofs.YtafnamchckehmaaGreatDoor.Pu
open Go.RowKit Go.Proofs.YtafnamchckehmaaGreatDoorW.PrintWords Go.Proofs.YtafnamchckehmaaGreatDoorW.PrintLast Go.Proofs.YtafnamchckehmaaGreatDoorW.PrintMore Go.Proofs.YtafnamchckehmaaGreatDoor.Pr
def areV (n : Int) (l : List IR) : Bool := decide (0 ≤ n ∧ n ≤ 6) && decide ((l.length : Int) ≤ 40) && l.all (ruleB n)
theorem are_loop (n : Int) (l : List IR) (hl : l.length ≤ 9223372036854775807) : ∀ (rest : List IR) (i : Nat), l.drop i = rest → Ev (fun k => spec_AreRules.l0 k n l (i : Int)) (decide (0 ≤ n ∧ n ≤ 6) && decide ((l.length : Int) ≤ 40) && rest.all (ruleB n)) := by
  intro rest
  induction rest with
  | nil =>
    intro i h
    have := drop_nil h
    refine Ev.step (f := fun _ => some (decide (0 ≤ n ∧ n ≤ 6) && decide ((l.length : Int) ≤ 40) && true)) (fun k => ?_) (Ev.now _)
    simp only [spec_AreRules.l0]
    rw [if_neg (by omega), l1In_val, Option.bind_some, Bool.and_true]
    cases decide (0 ≤ n ∧ n ≤ 6) <;> rfl
  | cons x rest ih =>
    intro i h
    obtain ⟨hi, hx, hr⟩ := drop_cons (d := z48) h
    rw [List.all_cons]
    cases e : ruleB n x with
    | true =>
      refine Ev.step (f := fun k => spec_AreRules.l0 k n l ((i + 1 : Nat) : Int)) (fun k => ?_) (ih (i + 1) hr)
      simp only [spec_AreRules.l0]
      rw [if_pos (by omega), if_pos (by omega), rdR, hx, rule_val, Option.bind_some, show (isSetB n x.f0 && isSetB n x.f1) = true from e, if_pos rfl, wrap_succ hi hl]
    | false =>
      refine Ev.step (f := fun _ => some false) (fun k => ?_) ?_
      · simp only [spec_AreRules.l0]
        rw [if_pos (by omega), if_pos (by omega), rdR, hx, rule_val, Option.bind_some, show (isSetB n x.f0 && isSetB n x.f1) = false from e, if_neg (by decide)]
      · rw [Bool.false_and, Bool.and_false]
        exact Ev.now false
theorem areS_val (n : Int) (l : List IR) (hl : l.length ≤ 9223372036854775807) : Ev (fun k => spec_AreRules.f k n l) (areV n l) := are_loop n l hl l 0 rfl
theorem areI_val (n : Int) (l : List IR) : impl_AreRules.f n l = some (areV n l) := rfl
theorem areV_nat {n : Int} {l : List IR} (h : areV n l = true) : ∃ m : Nat, n = (m : Int) ∧ m ≤ 6 ∧ l.length ≤ 40 ∧ l.all anyR = true ∧ ∀ r ∈ l, (toP r).1 < 2 ^ m ∧ (toP r).2 < 2 ^ m := by
  unfold areV at h
  rw [Bool.and_eq_true, Bool.and_eq_true, decide_eq_true_iff, decide_eq_true_iff, List.all_eq_true] at h
  obtain ⟨⟨h1, h2⟩, h3⟩ := h
  refine ⟨n.toNat, by omega, by omega, by omega, List.all_eq_true.2 fun r hr => ?_, fun r hr => ?_⟩
  · have := h3 r hr
    unfold ruleB at this
    rw [Bool.and_eq_true] at this
    unfold anyR
    rw [isSetB_any this.1, isSetB_any this.2]; rfl
  · have := h3 r hr
    unfold ruleB at this
    rw [Bool.and_eq_true] at this
    obtain ⟨m, a, hm, e1, ha, e2⟩ := isSetB_nat this.1
    obtain ⟨m', b, hm', e1', hb, e2'⟩ := isSetB_nat this.2
    unfold toP
    rw [e2, e2', e1, Int.toNat_natCast, Int.toNat_natCast, Int.toNat_natCast]
    refine ⟨ha, ?_⟩
    have : m' = m := by omega
    rw [← this]; exact hb
end Go.Proofs.YtafnamchckehmaaGreatDoor.Pu
namespace Go.Proofs.YtafnamchckehmaaGreatDoor.Pu
open Go.RowKit Go.Proofs.YtafnamchckehmaaGreatDoorW.PrintWords Go.Proofs.YtafnamchckehmaaGreatDoorW.PrintLast Go.Proofs.YtafnamchckehmaaGreatDoorW.PrintMore Go.Proofs.YtafnamchckehmaaGreatDoor.Pr
def dirFrom (R : Rules) : Nat → Nat → Bool
  | _, 0 => true
  | s, d + 1 => decide (step R s = clo R s) && dirFrom R (s + 1) d
def dirV (n : Int) (l : List IR) : Bool := areV n l && dirFrom (toR l) 0 (2 ^ n.toNat)
theorem dirS_loop (m : Nat) (hm : m ≤ 6) (l : List IR) (hl : l.length ≤ 9223372036854775807) (ha : l.all anyR = true) : ∀ (d s : Nat), s + d = 2 ^ m → Ev (fun k => spec_IsDirect.l0 k (m : Int) l (s : Int)) (dirFrom (toR l) s d) := by
  intro d
  have h6 : 2 ^ m ≤ 2 ^ 6 := Nat.pow_le_pow_right (by decide) hm
  have hpos := Nat.two_pow_pos m
  induction d with
  | zero =>
    intro s hs
    refine Ev.step (f := fun _ => some true) (fun k => ?_) (Ev.now _)
    simp only [spec_IsDirect.l0]
    rw [fullS_val, Option.bind_some, fullV_nat (by omega), if_neg (by omega)]
  | succ d ih =>
    intro s hs
    refine Ev.step (f := fun k => (spec_l12Step.f k l (s : Int)).bind fun t => (spec_l9Closed.f k l (s : Int)).bind fun u => if t = u then spec_IsDirect.l0 k (m : Int) l ((s + 1 : Nat) : Int) else some false) (fun k => ?_) ?_
    · simp only [spec_IsDirect.l0]
      rw [fullS_val, Option.bind_some, fullV_nat (by omega), if_pos (by omega), show wrap64 ((s : Int) + 1) = ((s + 1 : Nat) : Int) from by unfold wrap64; omega]
    · refine Ev.bind (stepS_val l hl ha s (by omega)) ?_
      refine Ev.bind (clS_val l hl ha s (by omega)) ?_
      rw [dirFrom]
      by_cases h : step (toR l) s = clo (toR l) s
      · refine Ev.congr (fun k => by rw [if_pos (by rw [h])]) ?_
        rw [decide_eq_true h, Bool.true_and]
        exact ih (s + 1) (by omega)
      · refine Ev.congr (fun k => by rw [if_neg (by omega)]) ?_
        rw [decide_eq_false h, Bool.false_and]
        exact Ev.now false
theorem dirI_loop (m : Nat) (hm : m ≤ 6) (l : List IR) (hl : l.length ≤ 9223372036854775807) (ha : l.all anyR = true) : ∀ (d s : Nat), s + d = 2 ^ m → Ev (fun k => impl_IsDirect.l0 k l ((2 ^ m : Nat) : Int) (s : Int)) (dirFrom (toR l) s d) := by
  intro d
  have h6 : 2 ^ m ≤ 2 ^ 6 := Nat.pow_le_pow_right (by decide) hm
  induction d with
  | zero =>
    intro s hs
    refine Ev.step (f := fun _ => some true) (fun k => ?_) (Ev.now _)
    simp only [impl_IsDirect.l0]
    rw [if_neg (by omega)]
  | succ d ih =>
    intro s hs
    refine Ev.step (f := fun k => (impl_OneStep.f k l (s : Int)).bind fun t => (impl_ClosedBy.f k l (s : Int)).bind fun u => if t = u then impl_IsDirect.l0 k l ((2 ^ m : Nat) : Int) ((s + 1 : Nat) : Int) else some false) (fun k => ?_) ?_
    · simp only [impl_IsDirect.l0]
      rw [if_pos (by omega), show wrap64 ((s : Int) + 1) = ((s + 1 : Nat) : Int) from by unfold wrap64; omega]
    · refine Ev.bind (oneI_val l hl _) ?_
      refine Ev.bind (closedI_val l hl _) ?_
      rw [dirFrom, stepV_nat ha (by omega), cloV_nat ha (by omega)]
      by_cases h : step (toR l) s = clo (toR l) s
      · refine Ev.congr (fun k => by rw [if_pos (by rw [h])]) ?_
        rw [decide_eq_true h, Bool.true_and]
        exact ih (s + 1) (by omega)
      · refine Ev.congr (fun k => by rw [if_neg (by omega)]) ?_
        rw [decide_eq_false h, Bool.false_and]
        exact Ev.now false
theorem shl_nat (m : Nat) (hm : m ≤ 6) : shl .i64 1 (m : Int) = ((2 ^ m : Nat) : Int) := by
  have h : m = 0 ∨ m = 1 ∨ m = 2 ∨ m = 3 ∨ m = 4 ∨ m = 5 ∨ m = 6 := by omega
  rcases h with rfl | rfl | rfl | rfl | rfl | rfl | rfl <;> decide +kernel
theorem dirS_val (n : Int) (l : List IR) (hl : l.length ≤ 9223372036854775807) : Ev (fun k => spec_IsDirect.f k n l) (dirV n l) := by
  unfold spec_IsDirect.f dirV
  refine Ev.bind (areS_val n l hl) ?_
  cases h : areV n l with
  | false => exact Ev.congr (fun k => by rw [if_neg (by decide)]; rfl) (Ev.now _)
  | true =>
    obtain ⟨m, rfl, hm, _, ha, _⟩ := areV_nat h
    refine Ev.congr (fun k => by rw [if_pos rfl]) ?_
    rw [Int.toNat_natCast]
    exact dirS_loop m hm l hl ha _ 0 (by omega)
theorem dirI_val (n : Int) (l : List IR) (hl : l.length ≤ 9223372036854775807) : Ev (fun k => impl_IsDirect.f k n l) (dirV n l) := by
  unfold impl_IsDirect.f dirV
  rw [areI_val]
  simp only [Option.bind_some]
  cases h : areV n l with
  | false => exact Ev.congr (fun k => by rw [if_neg (by decide)]; rfl) (Ev.now _)
  | true =>
    obtain ⟨m, rfl, hm, _, ha, _⟩ := areV_nat h
    refine Ev.congr (fun k => by rw [if_pos rfl, if_pos (by omega), shl_nat m hm]) ?_
    rw [Int.toNat_natCast]
    exact dirI_loop m hm l hl ha _ 0 (by omega)
end Go.Proofs.YtafnamchckehmaaGreatDoor.Pu
