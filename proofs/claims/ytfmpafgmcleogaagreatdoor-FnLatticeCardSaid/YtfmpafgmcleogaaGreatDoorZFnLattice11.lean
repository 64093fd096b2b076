/- Functions of the program as plain functions, proofs that their calls answer so, and plain laws: what the law needs. No condition beyond what each statement says. -/
import Derived.Test.YtfmpafgmcleogaaGreatDoorZFnLattice10
namespace Go.Proofs.YtfmpafgmcleogaaGreatDoor.Pu
open Go.RowKit Go.Proofs.YtfmpafgmcleogaaGreatDoorW.PrintWords Go.Proofs.YtfmpafgmcleogaaGreatDoorW.PrintLast Go.Proofs.YtfmpafgmcleogaaGreatDoorW.PrintMore Go.Proofs.YtfmpafgmcleogaaGreatDoor.Pr
def allN (m : Nat) : List Nat := lecR (List.range (2 ^ m))
theorem range_lt {m : Nat} (hm : m ≤ 8) : ∀ x ∈ List.range (2 ^ m), x < 256 := fun x hx => by
  have := pow_256 hm
  rw [List.mem_range] at hx
  omega
theorem mem_allN {m : Nat} (hm : m ≤ 8) {x : Nat} : x ∈ allN m ↔ x < 2 ^ m := by
  unfold allN
  rw [mem_lecR (range_lt hm), List.mem_range]
theorem allN_length {m : Nat} (hm : m ≤ 8) : (allN m).length = 2 ^ m := by
  unfold allN
  rw [lecR_length (range_lt hm) List.nodup_range, List.length_range]
theorem allN_row {m : Nat} (hm : m ≤ 8) {i : Nat} (hi : i < (allN m).length) : row (allN m) i < 2 ^ m := by
  unfold row
  rw [List.getD_eq_getElem?_getD, List.getElem?_eq_getElem hi]
  exact (mem_allN hm).1 (List.getElem_mem _)
theorem all_val {m : Nat} (hm : m ≤ 8) : Ev (fun k => impl_allSets.f k (m : Int)) (cast (allN m)) := by
  have hp := pow_256 hm
  have h1 := Nat.two_pow_pos m
  have hs : impl_SortLectic.f (cast (List.range (2 ^ m))) = some (cast (allN m)) := by
    unfold impl_SortLectic.f
    rw [if_pos ⟨cast_any (range_lt hm), cast_nodup List.nodup_range, by rw [cast_length, List.length_range]; exact h1⟩]
    have e : (cast (List.range (2 ^ m))).map Int.toNat = List.range (2 ^ m) := by
      unfold cast
      rw [List.map_map]
      exact List.map_id _
    rw [e]
    rfl
  unfold impl_allSets.f
  rw [shl_one m hm]
  refine Ev.congr (fun k => by rw [if_pos (by omega)]) ?_
  refine ev_fold (g := fun k (a : List Nat) i => impl_allSets.l0 k (cast a) ((2 ^ m : Nat) : Int) i) (rangeStep fun _ => true) (fun i a => a.length ≤ i) (N := 2 ^ m) ?_ (fun i a _ h => rangeStep_len _ i a h) (2 ^ m) 0 [] (by omega) (Nat.le_refl _) ?_
  · intro i a hi ha h
    refine Ev.step (fun k => ?_) h
    simp only [impl_allSets.l0]
    rw [if_pos (by omega), if_pos (by rw [cast_length]; omega), castOne, show wrap64 ((i : Int) + 1) = ((i + 1 : Nat) : Int) from by unfold wrap64; omega]
    rfl
  · intro b hb _
    rw [range_all, List.filter_eq_self.2 (fun _ _ => rfl)] at hb
    subst hb
    refine Ev.step (f := fun _ => some (cast (allN m))) (fun k => ?_) (Ev.now _)
    simp only [impl_allSets.l0]
    rw [if_neg (by omega), hs]
    rfl
def keptN (m : Nat) (q : Nat → Bool) : List Nat := lecR ((List.range (2 ^ m)).filter q)
theorem keptN_eq (m : Nat) (q : Nat → Bool) : (allN m).filter q = keptN m q := lecR_filter q
theorem filt_lt {m : Nat} (hm : m ≤ 8) (q : Nat → Bool) : ∀ x ∈ (List.range (2 ^ m)).filter q, x < 256 := fun x hx => range_lt hm x ((List.mem_filter.1 hx).1)
theorem mem_keptN {m : Nat} (hm : m ≤ 8) {q : Nat → Bool} {x : Nat} : x ∈ keptN m q ↔ x < 2 ^ m ∧ q x = true := by
  unfold keptN
  rw [mem_lecR (filt_lt hm q), List.mem_filter, List.mem_range]
theorem keptN_le {m : Nat} {q : Nat → Bool} : (keptN m q).length ≤ 256 := lecR_len
theorem low_all : ((List.range 256).all fun d => d == 0 || (List.range 8).any fun j => low d == 2 ^ j && d.testBit j && (List.range j).all fun i => !d.testBit i) = true := by decide +kernel
theorem low_bit {d : Nat} (hd : d < 256) (h0 : d ≠ 0) : ∃ j, j < 8 ∧ low d = 2 ^ j ∧ d.testBit j = true ∧ ∀ i, i < j → d.testBit i = false := by
  have h := List.all_eq_true.1 low_all d (List.mem_range.2 hd)
  rw [Bool.or_eq_true, beq_iff_eq] at h
  rcases h with h | h
  · exact absurd h h0
  · obtain ⟨j, hj, h⟩ := List.any_eq_true.1 h
    rw [Bool.and_eq_true, Bool.and_eq_true, beq_iff_eq] at h
    refine ⟨j, List.mem_range.1 hj, h.1.1, h.1.2, fun i hi => ?_⟩
    have := List.all_eq_true.1 h.2 i (List.mem_range.2 hi)
    simpa using this
theorem and_pow_ne {t j : Nat} : (t &&& 2 ^ j != 0) = t.testBit j := by
  rw [Bool.eq_iff_iff, bne_iff_ne]
  constructor
  · intro h
    refine Classical.byContradiction fun hn => h ?_
    refine Nat.eq_of_testBit_eq fun i => ?_
    rw [Nat.testBit_and, Nat.testBit_two_pow, Nat.zero_testBit]
    by_cases e : j = i
    · subst e; simp [hn]
    · simp [e]
  · intro h e
    have := congrArg (fun x => Nat.testBit x j) e
    simp [Nat.testBit_and, h] at this
theorem bef_iff {s t : Nat} (hs : s < 256) (ht : t < 256) : bef s t = true ↔ ∃ j, s.testBit j = false ∧ t.testBit j = true ∧ ∀ i, i < j → s.testBit i = t.testBit i := by
  have hd : s ^^^ t < 256 := Nat.xor_lt_two_pow (n := 8) hs ht
  rw [← low_bef hs ht]
  constructor
  · intro h
    have h0 : s ^^^ t ≠ 0 := by
      intro e
      rw [e] at h
      simp [low] at h
    obtain ⟨j, _, e, h1, h2⟩ := low_bit hd h0
    rw [e, and_pow_ne] at h
    rw [Nat.testBit_xor, h] at h1
    refine ⟨j, by simpa using h1, h, fun i hi => ?_⟩
    have := h2 i hi
    rw [Nat.testBit_xor] at this
    simpa using this
  · rintro ⟨j, h1, h2, h3⟩
    have hj : (s ^^^ t).testBit j = true := by rw [Nat.testBit_xor, h1, h2]; rfl
    have h0 : s ^^^ t ≠ 0 := by
      intro e
      rw [e, Nat.zero_testBit] at hj
      cases hj
    obtain ⟨j', _, e, k1, k2⟩ := low_bit hd h0
    have : j' = j := by
      rcases Nat.lt_trichotomy j' j with h | h | h
      · have := h3 j' h
        rw [Nat.testBit_xor, this] at k1
        simp at k1
      · exact h
      · rw [k2 j h] at hj
        cases hj
    rw [e, this, and_pow_ne]
    exact h2
def plus (c : Nat → Nat) (s j : Nat) : Nat := c ((s &&& full j) ||| 2 ^ j)
def hitsN (c : Nat → Nat) (s j : Nat) : Bool := !s.testBit j && (plus c s j &&& full j == s &&& full j)
def nextN (c : Nat → Nat) (s : Nat) : Nat → Option Nat
  | 0 => none
  | j + 1 => if hitsN c s j = true then some (plus c s j) else nextN c s j
theorem nextN_some {c : Nat → Nat} {s x : Nat} : ∀ {k : Nat}, nextN c s k = some x → ∃ i, i < k ∧ hitsN c s i = true ∧ x = plus c s i ∧ ∀ i', i < i' → i' < k → hitsN c s i' = false
  | 0, h => by cases h
  | k + 1, h => by
    unfold nextN at h
    by_cases hh : hitsN c s k = true
    · rw [if_pos hh] at h
      exact ⟨k, by omega, hh, (Option.some.inj h).symm, fun i' h1 h2 => by omega⟩
    · rw [if_neg hh] at h
      obtain ⟨i, h1, h2, h3, h4⟩ := nextN_some h
      refine ⟨i, by omega, h2, h3, fun i' k1 k2 => ?_⟩
      by_cases e : i' = k
      · subst e; simpa using hh
      · exact h4 i' k1 (by omega)
theorem nextN_none {c : Nat → Nat} {s : Nat} : ∀ {k : Nat}, nextN c s k = none → ∀ i, i < k → hitsN c s i = false
  | 0, _, i, hi => by omega
  | k + 1, h, i, hi => by
    unfold nextN at h
    by_cases hh : hitsN c s k = true
    · rw [if_pos hh] at h
      cases h
    · rw [if_neg hh] at h
      by_cases e : i = k
      · subst e; simpa using hh
      · exact nextN_none h i (by omega)
theorem testBit_lt {a n i : Nat} (ha : a < 2 ^ n) (h : a.testBit i = true) : i < n := by
  rcases Nat.lt_or_ge i n with k | k
  · exact k
  · rw [Nat.testBit_lt_two_pow (Nat.lt_of_lt_of_le ha (Nat.pow_le_pow_right (by decide) k))] at h
    cases h
theorem arg_lt {n s j : Nat} (hs : s < 2 ^ n) (hj : j < n) : (s &&& full j) ||| 2 ^ j < 2 ^ n := Nat.or_lt_two_pow (Nat.lt_of_le_of_lt Nat.and_le_left hs) (Nat.pow_lt_pow_right (by decide) hj)
theorem arg_bit {s j i : Nat} : ((s &&& full j) ||| 2 ^ j).testBit i = (s.testBit i && decide (i < j) || decide (j = i)) := by
  rw [Nat.testBit_or, Nat.testBit_and, testBit_full, Nat.testBit_two_pow]
theorem hits_iff {c : Nat → Nat} {s j : Nat} : hitsN c s j = true ↔ s.testBit j = false ∧ ∀ i, i < j → (plus c s j).testBit i = s.testBit i := by
  unfold hitsN
  rw [Bool.and_eq_true, beq_iff_eq, Bool.not_eq_true']
  refine and_congr_right fun _ => ⟨fun h i hi => ?_, fun h => Nat.eq_of_testBit_eq fun i => ?_⟩
  · have := congrArg (fun x => Nat.testBit x i) h
    simpa [Nat.testBit_and, testBit_full, hi] using this
  · rw [Nat.testBit_and, Nat.testBit_and, testBit_full]
    by_cases hi : i < j
    · rw [h i hi]
    · rw [decide_eq_false hi, Bool.and_false, Bool.and_false]
theorem next_key {n : Nat} {c : Nat → Nat} (C : Clos n c) {s t j : Nat} (hs : s < 2 ^ n) (ht : t < 2 ^ n) (hc : c t = t) (h1 : s.testBit j = false) (h2 : t.testBit j = true) (h3 : ∀ i, i < j → s.testBit i = t.testBit i) : hitsN c s j = true ∧ sub (plus c s j) t = true := by
  have hj := testBit_lt ht h2
  have ha := arg_lt hs hj
  have hsub : sub ((s &&& full j) ||| 2 ^ j) t = true := sub_iff.2 fun i hi => by
    rw [arg_bit, Bool.or_eq_true, Bool.and_eq_true, decide_eq_true_iff, decide_eq_true_iff] at hi
    rcases hi with ⟨k1, k2⟩ | rfl
    · rw [← h3 i k2]; exact k1
    · exact h2
  have hp : sub (plus c s j) t = true := by
    have := C.mono _ _ ha ht hsub
    rwa [hc] at this
  refine ⟨hits_iff.2 ⟨h1, fun i hi => ?_⟩, hp⟩
  rw [Bool.eq_iff_iff]
  constructor
  · intro h
    rw [h3 i hi]
    exact sub_iff.1 hp i h
  · intro h
    exact sub_iff.1 (C.ext _ ha) i (by rw [arg_bit, h, decide_eq_true hi]; rfl)
theorem plus_bit {n : Nat} {c : Nat → Nat} (C : Clos n c) {s j : Nat} (hs : s < 2 ^ n) (hj : j < n) : (plus c s j).testBit j = true := sub_iff.1 (C.ext _ (arg_lt hs hj)) j (by rw [arg_bit, decide_eq_true rfl, Bool.or_true])
theorem plus_lt {n : Nat} {c : Nat → Nat} (C : Clos n c) {s j : Nat} (hs : s < 2 ^ n) (hj : j < n) : plus c s j < 2 ^ n := C.lt _ (arg_lt hs hj)
theorem plus_closed {n : Nat} {c : Nat → Nat} (C : Clos n c) {s j : Nat} (hs : s < 2 ^ n) (hj : j < n) : c (plus c s j) = plus c s j := C.idem _ (arg_lt hs hj)
theorem sub_bef {s t : Nat} (hs : s < 256) (ht : t < 256) (h : sub s t = true) : s = t ∨ bef s t = true := by
  by_cases e : s = t
  · exact Or.inl e
  · refine Or.inr ?_
    have h0 : s ^^^ t ≠ 0 := fun k => e (xor_zero_eq k)
    obtain ⟨j, _, _, h1, h2⟩ := low_bit (Nat.xor_lt_two_pow (n := 8) hs ht) h0
    refine (bef_iff hs ht).2 ⟨j, ?_, ?_, fun i hi => by have := h2 i hi; rw [Nat.testBit_xor] at this; simpa using this⟩
    · cases hj : s.testBit j with
      | false => rfl
      | true => rw [Nat.testBit_xor, hj, sub_iff.1 h j hj] at h1; cases h1
    · cases hj : t.testBit j with
      | true => rfl
      | false =>
        rw [Nat.testBit_xor, hj, Bool.xor_false] at h1
        rw [sub_iff.1 h j h1] at hj
        cases hj
theorem next_some {n : Nat} {c : Nat → Nat} (C : Clos n c) (hn : n ≤ 8) {s x : Nat} (hs : s < 2 ^ n) (h : nextN c s n = some x) : x < 2 ^ n ∧ c x = x ∧ bef s x = true ∧ ∀ t, t < 2 ^ n → c t = t → bef s t = true → x = t ∨ bef x t = true := by
  have h256 := pow_le_256 hn
  obtain ⟨i, hi, hh, rfl, hno⟩ := nextN_some h
  have hx := plus_lt C hs hi
  obtain ⟨h1, h2⟩ := hits_iff.1 hh
  refine ⟨hx, plus_closed C hs hi, (bef_iff (by omega) (by omega)).2 ⟨i, h1, plus_bit C hs hi, fun j hj => (h2 j hj).symm⟩, fun t ht hc hb => ?_⟩
  obtain ⟨j, k1, k2, k3⟩ := (bef_iff (by omega) (by omega)).1 hb
  obtain ⟨g1, g2⟩ := next_key C hs ht hc k1 k2 k3
  have hj := testBit_lt ht k2
  rcases Nat.lt_trichotomy i j with hlt | rfl | hlt
  · rw [hno j hlt hj] at g1
    cases g1
  · exact sub_bef (by omega) (by omega) g2
  · right
    refine (bef_iff (by omega) (by omega)).2 ⟨j, by rw [h2 j hlt]; exact k1, k2, fun q hq => by rw [h2 q (by omega)]; exact k3 q hq⟩
theorem next_none {n : Nat} {c : Nat → Nat} (C : Clos n c) (hn : n ≤ 8) {s : Nat} (hs : s < 2 ^ n) (h : nextN c s n = none) {t : Nat} (ht : t < 2 ^ n) (hc : c t = t) : bef s t = false := by
  have h256 := pow_le_256 hn
  cases hb : bef s t with
  | false => rfl
  | true =>
    obtain ⟨j, k1, k2, k3⟩ := (bef_iff (by omega) (by omega)).1 hb
    obtain ⟨g1, _⟩ := next_key C hs ht hc k1 k2 k3
    rw [nextN_none h j (testBit_lt ht k2)] at g1
    cases g1
def fromN (n : Nat) (c : Nat → Nat) (s : Nat) : List Nat := lecF fun x => decide (x < 2 ^ n ∧ c x = x) && decide (rv s ≤ rv x)
theorem from_first {n : Nat} {c : Nat → Nat} (C : Clos n c) (hn : n ≤ 8) : fromN n c (c 0) = keptN n fun x => decide (c x = x) := by
  have h256 := pow_le_256 hn
  have h0 := Nat.two_pow_pos n
  unfold keptN lecR fromN
  refine lecF_congr fun x hx => ?_
  rw [Bool.eq_iff_iff, Bool.and_eq_true, decide_eq_true_iff, decide_eq_true_iff, decide_eq_true_iff, List.mem_filter, List.mem_range, decide_eq_true_iff]
  refine ⟨fun h => h.1, fun h => ⟨h, ?_⟩⟩
  have := C.mono 0 x h0 h.1 (sub_zero x)
  rw [h.2] at this
  rcases sub_bef (by have := C.lt 0 h0; omega) hx this with e | e
  · rw [e]; exact Nat.le_refl _
  · unfold bef at e
    rw [decide_eq_true_iff] at e
    omega
theorem from_cons {n : Nat} {c : Nat → Nat} (_C : Clos n c) (hn : n ≤ 8) {s : Nat} (hs : s < 2 ^ n) (hc : c s = s) : fromN n c s = s :: lecF fun x => decide (x < 2 ^ n ∧ c x = x) && decide (rv s < rv x) := by
  have h256 := pow_le_256 hn
  symm
  refine lec_eq (List.Pairwise.cons (fun y hy => ?_) (lecF_sorted _)) fun x => ?_
  · have := (mem_lecF.1 hy).2
    rw [Bool.and_eq_true, decide_eq_true_iff, decide_eq_true_iff] at this
    exact this.2
  · rw [List.mem_cons, mem_lecF]
    simp only [Bool.and_eq_true, decide_eq_true_iff]
    constructor
    · rintro (rfl | ⟨h1, h2, h3⟩)
      · exact ⟨by omega, ⟨hs, hc⟩, Nat.le_refl _⟩
      · exact ⟨h1, h2, by omega⟩
    · rintro ⟨h1, h2, h3⟩
      by_cases e : x = s
      · exact Or.inl e
      · refine Or.inr ⟨h1, h2, ?_⟩
        have : rv s ≠ rv x := fun k => e (rv_inj h1 (by omega) k.symm)
        omega
theorem from_next {n : Nat} {c : Nat → Nat} (C : Clos n c) (hn : n ≤ 8) {s x : Nat} (hs : s < 2 ^ n) (h : nextN c s n = some x) : (lecF fun x => decide (x < 2 ^ n ∧ c x = x) && decide (rv s < rv x)) = fromN n c x := by
  obtain ⟨_, _, h3, h4⟩ := next_some C hn hs h
  unfold bef at h3
  rw [decide_eq_true_iff] at h3
  unfold fromN
  refine lecF_congr fun t ht => ?_
  rw [Bool.eq_iff_iff, Bool.and_eq_true, Bool.and_eq_true, decide_eq_true_iff, decide_eq_true_iff, decide_eq_true_iff]
  refine and_congr_right fun ⟨k1, k2⟩ => ⟨fun k3 => ?_, fun k3 => by omega⟩
  rcases h4 t k1 k2 (decide_eq_true k3) with e | e
  · rw [e]; exact Nat.le_refl _
  · unfold bef at e
    rw [decide_eq_true_iff] at e
    omega
theorem from_last {n : Nat} {c : Nat → Nat} (C : Clos n c) (hn : n ≤ 8) {s : Nat} (hs : s < 2 ^ n) (h : nextN c s n = none) : (lecF fun x => decide (x < 2 ^ n ∧ c x = x) && decide (rv s < rv x)) = [] := by
  refine List.eq_nil_iff_forall_not_mem.2 fun t ht => ?_
  have := (mem_lecF.1 ht).2
  rw [Bool.and_eq_true, decide_eq_true_iff, decide_eq_true_iff] at this
  have hb := next_none C hn hs h this.1.1 this.1.2
  unfold bef at hb
  rw [decide_eq_false_iff_not] at hb
  exact hb this.2
def ctxB (n : Int) (l : List Int) : Bool := decide (0 ≤ n ∧ n ≤ 6) && decide ((l.length : Int) ≤ 8) && l.all (isSetB n)
theorem ctxI_val (n : Int) (l : List Int) : impl_IsContext.f n l = some (ctxB n l) := rfl
theorem ctxS_loop (n : Int) (l : List Int) (hl : l.length ≤ 9223372036854775807) : ∀ (rest : List Int) (i : Nat), l.drop i = rest → Ev (fun k => spec_IsContext.l0 k (i : Int) n l) (decide (0 ≤ n ∧ n ≤ 6) && decide ((l.length : Int) ≤ 8) && rest.all (isSetB n)) := by
  intro rest
  induction rest with
  | nil =>
    intro i h
    have := drop_nil h
    refine Ev.step (f := fun _ => some (decide (0 ≤ n ∧ n ≤ 6) && decide ((l.length : Int) ≤ 8))) (fun k => ?_) ?_
    · simp only [spec_IsContext.l0]
      rw [if_neg (by omega), l1In_val, Option.bind_some]
      by_cases h6 : 0 ≤ n ∧ n ≤ 6
      · rw [decide_eq_true h6]; rfl
      · rw [decide_eq_false h6]; rfl
    · rw [List.all_nil, Bool.and_true]; exact Ev.now _
  | cons x rest ih =>
    intro i h
    obtain ⟨hi, hx, hd⟩ := drop_cons (d := 0) h
    cases hq : isSetB n x with
    | true =>
      refine Ev.step (f := fun k => spec_IsContext.l0 k ((i + 1 : Nat) : Int) n l) (fun k => ?_) ?_
      · simp only [spec_IsContext.l0]
        rw [if_pos (by omega), if_pos (by omega), rd_nat, hx, specSet_val, Option.bind_some, hq, if_pos rfl, wrap_succ hi hl]
      · rw [List.all_cons, hq, Bool.true_and]; exact ih (i + 1) hd
    | false =>
      refine Ev.step (f := fun _ => some false) (fun k => ?_) ?_
      · simp only [spec_IsContext.l0]
        rw [if_pos (by omega), if_pos (by omega), rd_nat, hx, specSet_val, Option.bind_some, hq, if_neg (by decide)]
      · rw [List.all_cons, hq, Bool.false_and, Bool.and_false]; exact Ev.now _
theorem ctxS_val (n : Int) (l : List Int) (hl : l.length ≤ 9223372036854775807) : Ev (fun k => spec_IsContext.f k n l) (ctxB n l) := ctxS_loop n l hl l 0 rfl
theorem ctxB_nat {n : Int} {l : List Int} (h : ctxB n l = true) : ∃ (m : Nat) (R : List Nat), n = (m : Int) ∧ m ≤ 6 ∧ l = cast R ∧ R.length ≤ 8 ∧ ∀ r ∈ R, r < 2 ^ m := by
  unfold ctxB at h
  rw [Bool.and_eq_true, Bool.and_eq_true, decide_eq_true_iff, decide_eq_true_iff, List.all_eq_true] at h
  obtain ⟨⟨h1, h2⟩, h3⟩ := h
  have hx : ∀ x ∈ l, 0 ≤ x ∧ x.toNat < 2 ^ n.toNat := by
    intro x hx
    obtain ⟨m, a, hm, e1, ha, e2⟩ := isSetB_nat (h3 x hx)
    subst e2
    refine ⟨by omega, ?_⟩
    rw [e1, Int.toNat_natCast, Int.toNat_natCast]
    exact ha
  refine ⟨n.toNat, l.map Int.toNat, by omega, by omega, cast_of fun x h => (hx x h).1, by rw [List.length_map]; omega, fun r hr => ?_⟩
  obtain ⟨x, hx', rfl⟩ := List.mem_map.1 hr
  exact (hx x hx').2
theorem col_lt (R : List Nat) (m : Nat) : col R m < 2 ^ R.length := ofBits_lt _ _
def attrB (n : Int) (l : List Int) (m : Int) : Bool := ctxB n l && decide (0 ≤ m ∧ m < n)
theorem attrI_val (n : Int) (l : List Int) (m : Int) : impl_isAttribute.f n l m = some (attrB n l m) := by
  unfold impl_isAttribute.f attrB
  rw [ctxI_val, Option.bind_some]
  cases h : ctxB n l with
  | false => rfl
  | true =>
    obtain ⟨q, R, rfl, hq, _⟩ := ctxB_nat h
    rw [if_pos rfl, within_val, Option.bind_some, Bool.true_and, show wrap64 ((q : Int) - 1) = (q : Int) - 1 from by unfold wrap64; omega]
    refine congrArg some ?_
    rw [decide_eq_decide]
    omega
theorem colI_loop (R : List Nat) (hR : R.length ≤ 8) (hrow : ∀ i, row R i < 256) (m : Nat) (hm : m ≤ 8) : Ev (fun k => impl_ColumnOf.l0 k (m : Int) 0 (cast R) ((cast R).length : Int) 0) ((col R m : Nat) : Int) := by
  refine ev_fold (g := fun k (a : Nat) i => impl_ColumnOf.l0 k (m : Int) (a : Int) (cast R) ((cast R).length : Int) i) (bitStep fun g => (row R g).testBit m) (fun _ a => a < 2 ^ R.length) (N := R.length) ?_ (fun i a hi h => bitStep_lt hi h) R.length 0 0 (by omega) (Nat.two_pow_pos _) ?_
  · intro i a hi ha h
    have ha' := lt_256 hR ha
    refine Ev.step (fun k => ?_) h
    simp only [impl_ColumnOf.l0]
    rw [if_pos (by rw [cast_length]; omega), if_pos (by omega), if_pos (by rw [cast_length]; omega), if_pos (by omega), rd_row, bit01 _ _ (by have := hrow i; omega) (by omega), or_shl ha' (by omega), wrap_succ hi (by omega)]
    rfl
  · intro b hb _
    refine Ev.step (f := fun _ => some (b : Int)) (fun k => ?_) ?_
    · simp only [impl_ColumnOf.l0]
      rw [if_neg (by rw [cast_length]; omega)]
    · rw [hb, fold_bits]; exact Ev.now _
theorem colI_val {n : Int} {l : List Int} {m : Nat} {R : List Nat} {g : Nat} (h : ctxB n l = true) (e : n = (m : Int)) (e' : l = cast R) (hm : m ≤ 6) (hR : R.length ≤ 8) (hb : ∀ r ∈ R, r < 2 ^ m) (hg : g < m) : Ev (fun k => impl_ColumnOf.f k n l (g : Int)) ((col R g : Nat) : Int) := by
  unfold impl_ColumnOf.f
  have ha : attrB n l (g : Int) = true := by unfold attrB; rw [h, Bool.true_and, decide_eq_true_iff]; omega
  refine Ev.congr (fun k => by rw [attrI_val, ha, Option.bind_some, if_pos rfl, e']) ?_
  exact colI_loop R hR (fun i => lt_256 (show m ≤ 8 by omega) (row_lt hb i)) g (by omega)
def cols (m : Nat) (R : List Nat) : List Nat := (List.range m).map (col R)
theorem cols_length (m : Nat) (R : List Nat) : (cols m R).length = m := by unfold cols; rw [List.length_map, List.length_range]
theorem row_cols {m i : Nat} (R : List Nat) (h : i < m) : row (cols m R) i = col R i := by
  unfold row cols
  rw [List.getD_eq_getElem?_getD, List.getElem?_map, List.getElem?_range h]
  rfl
theorem cols_lt {m : Nat} {R : List Nat} : ∀ r ∈ cols m R, r < 2 ^ R.length := by
  intro r hr
  obtain ⟨i, _, rfl⟩ := List.mem_map.1 hr
  exact col_lt R i
theorem colsI_val {n : Int} {l : List Int} {m : Nat} {R : List Nat} (h : ctxB n l = true) (e : n = (m : Int)) (e' : l = cast R) (hm : m ≤ 6) (hR : R.length ≤ 8) (hb : ∀ r ∈ R, r < 2 ^ m) : Ev (fun k => impl_columns.f k n l) (cast (cols m R)) := by
  unfold impl_columns.f
  subst e
  refine ev_fold (g := fun k (a : List Int) i => impl_columns.l0 k a (m : Int) i (m : Int) l) (fun i a => a ++ [((col R i : Nat) : Int)]) (fun i a => a = cast ((List.range i).map (col R))) (N := m) ?_ ?_ m 0 [] (by omega) rfl ?_
  · intro i a hi ha h'
    have hl : a.length ≤ 8 := by rw [ha, cast_length, List.length_map, List.length_range]; omega
    refine Ev.step (f := fun k => (impl_ColumnOf.f k (m : Int) l (i : Int)).bind fun t => impl_columns.l0 k (a ++ [t]) (m : Int) ((i + 1 : Nat) : Int) (m : Int) l) (fun k => ?_) ?_
    · simp only [impl_columns.l0]
      rw [if_pos (by omega), wrap_succ hi (by omega)]
      simp only [if_pos (show a.length < 17592186044416 by omega)]
    · exact Ev.bind (colI_val h rfl e' hm hR hb hi) h'
  · intro i a hi ha
    rw [ha, List.range_succ, List.map_append]
    unfold cast
    rw [List.map_append]
    rfl
  · intro b _ hb'
    refine Ev.step (f := fun _ => some b) (fun k => ?_) ?_
    · simp only [impl_columns.l0]
      rw [if_neg (by omega)]
    · rw [hb']; exact Ev.now _
def atsB (n : Int) (l : List Int) (a : Int) : Bool := ctxB n l && isSetB n a
theorem atsI_val (n : Int) (l : List Int) (a : Int) : impl_areAttributes.f n l a = some (atsB n l a) := by
  unfold impl_areAttributes.f atsB
  rw [ctxI_val, Option.bind_some]
  cases ctxB n l with
  | false => rfl
  | true => rw [if_pos rfl, set_val, Option.bind_some, Bool.true_and]
def obsB (n : Int) (l : List Int) (o : Int) : Bool := ctxB n l && isSetB (l.length : Int) o
theorem obsI_val (n : Int) (l : List Int) (o : Int) : impl_areObjects.f n l o = some (obsB n l o) := by
  unfold impl_areObjects.f obsB
  rw [ctxI_val, Option.bind_some]
  cases ctxB n l with
  | false => rfl
  | true => rw [if_pos rfl, set_val, Option.bind_some, Bool.true_and]
def comStep (L : List Nat) (c i f : Nat) : Nat := if c.testBit i = true then f &&& row L i else f
def com (L : List Nat) (c f : Nat) : Nat := foldIdx (comStep L c) 0 L.length f
theorem comStep_le (L : List Nat) (c i f : Nat) : comStep L c i f ≤ f := by
  unfold comStep
  split
  · exact Nat.and_le_left
  · exact Nat.le_refl _
theorem testBit_fold_com (L : List Nat) (c j : Nat) : ∀ (d i f : Nat), i + d = L.length → ((foldIdx (comStep L c) i L.length f).testBit j = true ↔ f.testBit j = true ∧ ∀ g, i ≤ g → g < L.length → c.testBit g = true → (row L g).testBit j = true) := by
  intro d
  induction d with
  | zero =>
    intro i f h
    rw [foldIdx_end _ (by omega)]
    exact ⟨fun h => ⟨h, fun g h1 h2 => by omega⟩, fun h => h.1⟩
  | succ d ih =>
    intro i f h
    have hi : i < L.length := by omega
    rw [foldIdx_step _ hi f, ih (i + 1) _ (by omega)]
    unfold comStep
    by_cases hc : c.testBit i = true
    · rw [if_pos hc, Nat.testBit_and, Bool.and_eq_true]
      constructor
      · rintro ⟨⟨h1, h2⟩, h3⟩
        refine ⟨h1, fun g hg hg' hcg => ?_⟩
        by_cases e : g = i
        · subst e; exact h2
        · exact h3 g (by omega) hg' hcg
      · rintro ⟨h1, h2⟩
        exact ⟨⟨h1, h2 i (Nat.le_refl _) hi hc⟩, fun g hg hg' hcg => h2 g (by omega) hg' hcg⟩
    · rw [if_neg hc]
      constructor
      · rintro ⟨h1, h3⟩
        refine ⟨h1, fun g hg hg' hcg => ?_⟩
        by_cases e : g = i
        · subst e; exact absurd hcg hc
        · exact h3 g (by omega) hg' hcg
      · rintro ⟨h1, h2⟩
        exact ⟨h1, fun g hg hg' hcg => h2 g (by omega) hg' hcg⟩
theorem testBit_com (L : List Nat) (c f j : Nat) : (com L c f).testBit j = true ↔ f.testBit j = true ∧ ∀ g, g < L.length → c.testBit g = true → (row L g).testBit j = true := by
  unfold com
  rw [testBit_fold_com L c j L.length 0 f (by omega)]
  exact ⟨fun h => ⟨h.1, fun g h1 => h.2 g (Nat.zero_le _) h1⟩, fun h => ⟨h.1, fun g _ h1 => h.2 g h1⟩⟩
theorem testBit_col (R : List Nat) (m g : Nat) : (col R m).testBit g = (decide (g < R.length) && (row R g).testBit m) := testBit_ofBits ..
theorem ext_com {m : Nat} {R : List Nat} {a : Nat} (ha : a < 2 ^ m) : com (cols m R) a (full R.length) = ext R a := by
  apply Nat.eq_of_testBit_eq
  intro g
  rw [Bool.eq_iff_iff, testBit_com, testBit_ext, testBit_full, Bool.and_eq_true, decide_eq_true_iff, sub_iff, cols_length]
  refine and_congr_right fun hg => ⟨fun h i hi => ?_, fun h i hi hai => ?_⟩
  · have him : i < m := by
      rcases Nat.lt_or_ge i m with h' | h'
      · exact h'
      · rw [lt_two_pow_iff.1 ha i h'] at hi; cases hi
    have := h i him hi
    rw [row_cols R him, testBit_col, Bool.and_eq_true] at this
    exact this.2
  · rw [row_cols R hi, testBit_col, h i hai, decide_eq_true hg]
    rfl
theorem int_com (m : Nat) (R : List Nat) (o : Nat) : com R o (full m) = int m R o := by
  apply Nat.eq_of_testBit_eq
  intro i
  rw [Bool.eq_iff_iff, testBit_com, testBit_int, testBit_full, decide_eq_true_iff]
theorem ext_lt (R : List Nat) (a : Nat) : ext R a < 2 ^ R.length := ofBits_lt _ _
theorem comI_val (L : List Nat) (hl : L.length ≤ 8) (hL : ∀ i, row L i < 256) (c f : Nat) (hc : c < 256) (hf : f < 256) : Ev (fun k => impl_common.f k (cast L) (c : Int) (f : Int)) ((com L c f : Nat) : Int) := by
  unfold impl_common.f
  refine ev_fold (g := fun k (a : Nat) i => impl_common.l0 k (c : Int) (a : Int) (cast L) ((cast L).length : Int) i) (comStep L c) (fun _ a => a < 256) (N := L.length) ?_ (fun i a _ h => Nat.lt_of_le_of_lt (comStep_le L c i a) h) L.length 0 f (by omega) hf ?_
  · intro i a hi ha h
    refine Ev.step (fun k => ?_) h
    simp only [impl_common.l0]
    rw [if_pos (by rw [cast_length]; omega), if_pos (by omega), if_pos (by rw [cast_length]; omega), rd_row, wrap_succ hi (by omega), hasI_val, Option.bind_some]
    have hv : hasV (c : Int) (i : Int) = c.testBit i := by
      unfold hasV isAny
      rw [decide_eq_true (by omega), decide_eq_true (by omega)]
      simp
    rw [hv]
    unfold comStep
    by_cases h1 : c.testBit i = true
    · rw [if_pos h1, if_pos h1, and_nat (by omega) (by have := hL i; omega)]
    · rw [if_neg h1, if_neg h1]
  · intro b hb _
    refine Ev.step (f := fun _ => some (b : Int)) (fun k => ?_) ?_
    · simp only [impl_common.l0]
      rw [if_neg (by rw [cast_length]; omega)]
    · rw [hb]; exact Ev.now _
theorem intS_val (m : Nat) (hm : m ≤ 8) (R : List Nat) (hR : R.length ≤ 8) (hrow : ∀ i, row R i < 256) (o : Nat) (ho : o < 256) : Ev (fun k => spec_l4Intent.f k (m : Int) (cast R) (o : Int)) ((int m R o : Nat) : Int) := by
  unfold spec_l4Intent.f
  refine Ev.congr (fun k => by rw [fullS_val, Option.bind_some, fullN hm]) ?_
  refine ev_fold (g := fun k (a : Nat) i => spec_l4Intent.l0 k (o : Int) (a : Int) i (m : Int) (cast R)) (comStep R o) (fun _ a => a < 256) (N := R.length) ?_ (fun i a _ h => Nat.lt_of_le_of_lt (comStep_le R o i a) h) R.length 0 (full m) (by omega) (full_256 hm) ?_
  · intro i a hi ha h
    refine Ev.step (fun k => ?_) h
    simp only [spec_l4Intent.l0]
    rw [if_pos (by rw [cast_length]; omega), l2Has_val _ _ (by omega) (by omega), Option.bind_some, rd_row, wrap_succ hi (by omega)]
    unfold comStep
    by_cases h1 : o.testBit i = true
    · rw [if_pos h1, if_pos (by omega), if_pos h1, and_nat (by omega) (by have := hrow i; omega)]
    · rw [if_neg h1, if_neg h1]
  · intro b hb _
    refine Ev.step (f := fun _ => some (b : Int)) (fun k => ?_) ?_
    · simp only [spec_l4Intent.l0]
      rw [if_neg (by rw [cast_length]; omega)]
    · rw [hb, show foldIdx (comStep R o) 0 R.length (full m) = int m R o from int_com m R o]; exact Ev.now _
theorem extS_val (n : Int) (R : List Nat) (hR : R.length ≤ 8) (hrow : ∀ i, row R i < 256) (a : Nat) (ha : a < 256) : Ev (fun k => spec_l4Extent.f k n (cast R) (a : Int)) ((ext R a : Nat) : Int) := by
  unfold spec_l4Extent.f
  refine ev_fold (g := fun k (b : Nat) i => spec_l4Extent.l0 k (a : Int) (b : Int) i n (cast R)) (bitStep fun g => sub a (row R g)) (fun _ b => b < 2 ^ R.length) (N := R.length) ?_ (fun i b hi h => bitStep_lt hi h) R.length 0 0 (by omega) (Nat.two_pow_pos _) ?_
  · intro i b hi hb h
    have hb' := lt_256 hR hb
    refine Ev.step (fun k => ?_) h
    simp only [spec_l4Extent.l0]
    rw [if_pos (by rw [cast_length]; omega), if_pos (by omega), rd_row, wrap_succ hi (by omega), wrapU_small _ (by omega) (by omega)]
    unfold bitStep
    dsimp only
    by_cases h1 : sub a (row R i) = true
    · rw [if_pos ((and_is ha (hrow i)).2 h1), if_pos (by omega), if_pos h1, or_bit hb' (by omega)]
    · rw [if_neg (fun h => h1 ((and_is ha (hrow i)).1 h)), if_neg h1]
  · intro b hb _
    refine Ev.step (f := fun _ => some (b : Int)) (fun k => ?_) ?_
    · simp only [spec_l4Extent.l0]
      rw [if_neg (by rw [cast_length]; omega)]
    · rw [hb, fold_bits]; exact Ev.now _
theorem clS4_val (m : Nat) (hm : m ≤ 8) (R : List Nat) (hR : R.length ≤ 8) (hrow : ∀ i, row R i < 256) (a : Nat) (ha : a < 256) : Ev (fun k => spec_l4Closure.f k (m : Int) (cast R) (a : Int)) ((cl m R a : Nat) : Int) := by
  unfold spec_l4Closure.f
  refine Ev.bind (extS_val _ R hR hrow a ha) ?_
  exact Ev.bind (intS_val m hm R hR hrow _ (lt_256 hR (ext_lt R a))) (Ev.now _)
theorem clI4_val {m : Nat} (hm : m ≤ 6) {R : List Nat} (hR : R.length ≤ 8) (hb : ∀ r ∈ R, r < 2 ^ m) {a : Nat} (ha : a < 2 ^ m) (hc : ctxB (m : Int) (cast R) = true) : Ev (fun k => impl_ClosureOf.f k (m : Int) (cast R) (a : Int)) ((cl m R a : Nat) : Int) := by
  have hat : atsB (m : Int) (cast R) (a : Int) = true := by unfold atsB; rw [hc, isSetB_mk (by omega) ha]; rfl
  have hob : obsB (m : Int) (cast R) ((ext R a : Nat) : Int) = true := by unfold obsB; rw [hc, cast_length, isSetB_mk hR (ext_lt R a)]; rfl
  have hrow := fun i => lt_256 (show m ≤ 8 by omega) (row_lt hb i)
  unfold impl_ClosureOf.f impl_ExtentOf.f impl_IntentOf.f
  rw [atsI_val, hat]
  simp only [Option.bind_some]
  refine Ev.congr (fun k => by rw [if_true, if_true]) ?_
  have h1 : Ev (fun k => (impl_columns.f k (m : Int) (cast R)).bind fun t371 => (impl_FullSet.f ((cast R).length : Int)).bind fun t374 => (impl_common.f k t371 (a : Int) t374).bind fun t375 => some t375) ((ext R a : Nat) : Int) := by
    refine Ev.bind (colsI_val hc rfl rfl hm hR hb) ?_
    refine Ev.congr (fun k => by rw [fullI_val, Option.bind_some, cast_length, fullN hR]) ?_
    refine Ev.bind (comI_val (cols m R) (by rw [cols_length]; omega) (fun i => lt_256 hR (row_lt cols_lt i)) a _ (lt_256 (show m ≤ 8 by omega) ha) (full_256 hR)) ?_
    rw [ext_com ha]
    exact Ev.now _
  refine Ev.bind h1 ?_
  refine Ev.congr (fun k => by rw [obsI_val, hob, Option.bind_some, if_pos rfl, fullI_val, Option.bind_some, fullN (by omega)]) ?_
  have h2 : Ev (fun k => (impl_common.f k (cast R) ((ext R a : Nat) : Int) ((full m : Nat) : Int)).bind fun t368 => some t368) ((cl m R a : Nat) : Int) := by
    refine Ev.bind (comI_val R hR hrow _ _ (lt_256 hR (ext_lt R a)) (full_256 (by omega))) ?_
    rw [int_com]
    exact Ev.now _
  exact Ev.bind h2 (Ev.now _)
theorem extI4_val {m : Nat} (hm : m ≤ 6) {R : List Nat} (hR : R.length ≤ 8) (hb : ∀ r ∈ R, r < 2 ^ m) {a : Nat} (ha : a < 2 ^ m) (hc : ctxB (m : Int) (cast R) = true) : Ev (fun k => impl_ExtentOf.f k (m : Int) (cast R) (a : Int)) ((ext R a : Nat) : Int) := by
  have hat : atsB (m : Int) (cast R) (a : Int) = true := by unfold atsB; rw [hc, isSetB_mk (by omega) ha]; rfl
  unfold impl_ExtentOf.f
  rw [atsI_val, hat]
  simp only [Option.bind_some]
  refine Ev.congr (fun k => by rw [if_true]) ?_
  refine Ev.bind (colsI_val hc rfl rfl hm hR hb) ?_
  refine Ev.congr (fun k => by rw [fullI_val, Option.bind_some, cast_length, fullN hR]) ?_
  refine Ev.bind (comI_val (cols m R) (by rw [cols_length]; omega) (fun i => lt_256 hR (row_lt cols_lt i)) a _ (lt_256 (show m ≤ 8 by omega) ha) (full_256 hR)) ?_
  rw [ext_com ha]
  exact Ev.now _
def closedQ (m : Nat) (R : List Nat) (s : Nat) : Bool := decide (cl m R s = s)
theorem isClosed_val {m : Nat} (hm : m ≤ 6) {R : List Nat} (hR : R.length ≤ 8) (hb : ∀ r ∈ R, r < 2 ^ m) {a : Nat} (ha : a < 2 ^ m) (hc : ctxB (m : Int) (cast R) = true) : Ev (fun k => impl_IsClosed.f k (m : Int) (cast R) (a : Int)) (closedQ m R a) := by
  have hat : atsB (m : Int) (cast R) (a : Int) = true := by unfold atsB; rw [hc, isSetB_mk (by omega) ha]; rfl
  unfold impl_IsClosed.f
  rw [atsI_val, hat]
  simp only [Option.bind_some]
  refine Ev.congr (fun k => by rw [if_true]) ?_
  refine Ev.bind (clI4_val hm hR hb ha hc) ?_
  have e : (((cl m R a : Nat) : Int) == (a : Int)) = closedQ m R a := by
    unfold closedQ
    rw [Bool.eq_iff_iff, beq_iff_eq, decide_eq_true_iff]
    omega
  rw [e]
  exact Ev.now _
def conN (m : Nat) (R : List Nat) : List S51 := (keptN m (closedQ m R)).map fun s => ⟨((ext R s : Nat) : Int), ((s : Nat) : Int)⟩
theorem conN_map (R a : List Nat) (x : Nat) : (a.map fun s => (⟨((ext R s : Nat) : Int), ((s : Nat) : Int)⟩ : S51)) ++ [⟨((ext R x : Nat) : Int), ((x : Nat) : Int)⟩] = (a ++ [x]).map fun s => ⟨((ext R s : Nat) : Int), ((s : Nat) : Int)⟩ := by rw [List.map_append]; rfl
theorem con_val {m : Nat} (hm : m ≤ 6) {R : List Nat} (hR : R.length ≤ 8) (hb : ∀ r ∈ R, r < 2 ^ m) (hc : ctxB (m : Int) (cast R) = true) : Ev (fun k => impl_Concepts.f k (m : Int) (cast R)) (conN m R) := by
  unfold impl_Concepts.f
  rw [ctxI_val]
  simp only [Option.bind_some]
  refine Ev.congr (fun k => by rw [if_pos hc]) ?_
  refine Ev.bind (all_val (show m ≤ 8 by omega)) ?_
  have hp := pow_256 (show m ≤ 8 by omega)
  have hN : (allN m).length ≤ 256 := by rw [allN_length (by omega)]; exact hp
  refine ev_fold (g := fun k (a : List Nat) i => impl_Concepts.l0 k (a.map fun s => ⟨((ext R s : Nat) : Int), ((s : Nat) : Int)⟩) (cast (allN m)) ((cast (allN m)).length : Int) i (m : Int) (cast R)) (keepStep (allN m) (closedQ m R)) (fun i a => a.length ≤ i) (N := (allN m).length) ?_ (fun i a _ h => keep_len _ _ i a h) (allN m).length 0 [] (by omega) (Nat.le_refl _) ?_
  · intro i a hi hai h
    have hr := allN_row (show m ≤ 8 by omega) hi
    refine Ev.step (f := fun k => (impl_IsClosed.f k (m : Int) (cast R) ((row (allN m) i : Nat) : Int)).bind fun t => if t = true then (impl_ExtentOf.f k (m : Int) (cast R) ((row (allN m) i : Nat) : Int)).bind fun u => (if (a.map fun s => (⟨((ext R s : Nat) : Int), ((s : Nat) : Int)⟩ : S51)).length < 8796093022208 then impl_Concepts.l0 k ((a.map fun s => ⟨((ext R s : Nat) : Int), ((s : Nat) : Int)⟩) ++ [⟨u, ((row (allN m) i : Nat) : Int)⟩]) (cast (allN m)) ((cast (allN m)).length : Int) ((i + 1 : Nat) : Int) (m : Int) (cast R) else none) else impl_Concepts.l0 k (a.map fun s => ⟨((ext R s : Nat) : Int), ((s : Nat) : Int)⟩) (cast (allN m)) ((cast (allN m)).length : Int) ((i + 1 : Nat) : Int) (m : Int) (cast R)) (fun k => ?_) ?_
    · simp only [impl_Concepts.l0]
      rw [if_pos (by rw [cast_length]; omega), if_pos (by omega), if_pos (by rw [cast_length]; omega), rd_row, wrap_succ hi (by omega)]
    · refine Ev.bind (isClosed_val hm hR hb hr hc) ?_
      unfold keepStep at h
      cases e : closedQ m R (row (allN m) i) with
      | true =>
        rw [if_pos e] at h
        refine Ev.congr (fun k => by rw [if_pos rfl]) ?_
        refine Ev.bind (extI4_val hm hR hb hr hc) ?_
        refine Ev.congr (fun k => by rw [if_pos (by rw [List.length_map]; omega), conN_map]) ?_
        exact h
      | false =>
        rw [if_neg (by rw [e]; decide)] at h
        exact Ev.congr (fun k => by rw [if_neg (by decide)]) h
  · intro b hbb _
    rw [keep_all, keptN_eq] at hbb
    subst hbb
    refine Ev.step (f := fun _ => some (conN m R)) (fun k => ?_) (Ev.now _)
    simp only [impl_Concepts.l0]
    rw [if_neg (by rw [cast_length]; omega)]
    rfl
abbrev IC := S51
def nxO : Option Nat → Int × Bool
  | some x => ((x : Int), true)
  | none => (0, false)
theorem next5_loop {m : Nat} (hm : m ≤ 6) {R : List Nat} (hR : R.length ≤ 8) (hrow : ∀ i, row R i < 256) {s : Nat} (hs : s < 2 ^ m) : ∀ j, j ≤ m → Ev (fun k => spec_l5Next.l0 k (s : Int) ((j : Int) - 1) (m : Int) (cast R)) (nxO (nextN (cl m R) s j)) := by
  have h256 := pow_256 (show m ≤ 8 by omega)
  intro j
  induction j with
  | zero =>
    intro _
    refine Ev.step (f := fun _ => some (0, false)) (fun k => ?_) (Ev.now _)
    simp only [spec_l5Next.l0]
    rw [if_neg (by omega)]
  | succ j ih =>
    intro hj
    have hih := ih (by omega)
    have e1 : ((j + 1 : Nat) : Int) - 1 = (j : Int) := by omega
    have ew : wrap64 ((j : Int) - 1) = (j : Int) - 1 := by unfold wrap64; omega
    rw [e1]
    have hfull := full_256 (show j ≤ 8 by omega)
    have ha : s &&& full j < 256 := Nat.lt_of_le_of_lt Nat.and_le_left (by omega)
    have harg : (s &&& full j) ||| 2 ^ j < 2 ^ m := arg_lt hs (by omega)
    have hp : plus (cl m R) s j < 256 := Nat.lt_of_lt_of_le (plus_lt (clos_cl m R) hs (by omega)) h256
    cases hb : s.testBit j with
    | true =>
      have : nextN (cl m R) s (j + 1) = nextN (cl m R) s j := by
        rw [nextN]
        rw [if_neg]
        unfold hitsN
        rw [hb]
        simp
      rw [this]
      refine Ev.step (fun k => ?_) hih
      simp only [spec_l5Next.l0]
      rw [if_pos (by omega), l2Has_val s j (by omega) (by omega), hb, Option.bind_some, if_pos rfl, ew]
    | false =>
      refine Ev.step (f := fun k => (spec_l4Closure.f k (m : Int) (cast R) (((s &&& full j) ||| 2 ^ j : Nat) : Int)).bind fun t => if Go.bits .and .i64 t ((full j : Nat) : Int) = ((s &&& full j : Nat) : Int) then some (t, true) else spec_l5Next.l0 k (s : Int) ((j : Int) - 1) (m : Int) (cast R)) (fun k => ?_) ?_
      · simp only [spec_l5Next.l0]
        rw [if_pos (by omega), l2Has_val s j (by omega) (by omega), hb, Option.bind_some, if_neg (by decide), fullS_val, fullN (by omega), Option.bind_some, wrapU_small (j : Int) (by omega) (by omega), if_pos (by omega), ew, and_nat (by omega) (by omega), or_bit ha (by omega)]
        simp only [Option.bind_some]
      · refine Ev.bind (clS4_val m (by omega) R hR hrow _ (by omega)) ?_
        rw [show cl m R ((s &&& full j) ||| 2 ^ j) = plus (cl m R) s j from rfl, and_nat (by omega) (by omega)]
        rw [nextN]
        by_cases e : plus (cl m R) s j &&& full j = s &&& full j
        · have : hitsN (cl m R) s j = true := by
            unfold hitsN
            rw [hb, e]
            simp
          rw [if_pos this]
          exact Ev.congr (fun k => by rw [if_pos (by rw [e])]; rfl) (Ev.now _)
        · have : ¬ hitsN (cl m R) s j = true := by
            unfold hitsN
            rw [Bool.and_eq_true, beq_iff_eq]
            exact fun h => e h.2
          rw [if_neg this]
          exact Ev.congr (fun k => by rw [if_neg (by omega)]) hih
theorem next5_val {m : Nat} (hm : m ≤ 6) {R : List Nat} (hR : R.length ≤ 8) (hrow : ∀ i, row R i < 256) {s : Nat} (hs : s < 2 ^ m) : Ev (fun k => spec_l5Next.f k (m : Int) (cast R) (s : Int)) (nxO (nextN (cl m R) s m)) := by
  unfold spec_l5Next.f
  rw [show wrap64 ((m : Int) - 1) = (m : Int) - 1 from by unfold wrap64; omega]
  exact next5_loop hm hR hrow hs m (Nat.le_refl _)
def mkC (R : List Nat) (s : Nat) : IC := ⟨((ext R s : Nat) : Int), ((s : Nat) : Int)⟩
theorem con5_val {m : Nat} (hm : m ≤ 6) {R : List Nat} (hR : R.length ≤ 8) (hrow : ∀ i, row R i < 256) {s : Nat} (hs : s < 2 ^ m) (hc : cl m R s = s) : Ev (fun k => spec_l5Concept.f k (m : Int) (cast R) (s : Int)) (((ext R s : Nat) : Int), ((s : Nat) : Int)) := by
  have h256 := pow_256 (show m ≤ 8 by omega)
  unfold spec_l5Concept.f
  refine Ev.bind (extS_val (m : Int) R hR hrow s (by omega)) ?_
  refine Ev.bind (intS_val m (by omega) R hR hrow (ext R s) (lt_256 hR (ext_lt R s))) ?_
  rw [show int m R (ext R s) = s from hc]
  exact Ev.now _
theorem cons_loop {m : Nat} (hm : m ≤ 6) {R : List Nat} (hR : R.length ≤ 8) (hrow : ∀ i, row R i < 256) : ∀ (d s : Nat) (out : List Nat), s < 2 ^ m → cl m R s = s → 256 - rv s ≤ d → out.length + d ≤ 512 →
    Ev (fun k => spec_Concepts.l0 k (out.map (mkC R)) (s : Int) (m : Int) (cast R)) ((out ++ fromN m (cl m R) s).map (mkC R)) := by
  have h256 := pow_256 (show m ≤ 8 by omega)
  intro d
  induction d with
  | zero =>
    intro s out hs _ hd _
    have := rv_lt (show s < 256 by omega)
    omega
  | succ d ih =>
    intro s out hs hc hd hl
    have C := clos_cl m R
    have hlen : (out.map (mkC R)).length ≤ 1048576 := by rw [List.length_map]; omega
    have hsmall : (out.map (mkC R)).length < 8796093022208 := by
      have : ∀ n : Nat, n ≤ 1048576 → n < 8796093022208 := fun n _ => by omega
      exact this _ hlen
    have hsnoc : out.map (mkC R) ++ [(⟨((ext R s : Nat) : Int), ((s : Nat) : Int)⟩ : IC)] = (out ++ [s]).map (mkC R) := by rw [List.map_append]; rfl
    refine Ev.step (f := fun k => (spec_l5Concept.f k (m : Int) (cast R) (s : Int)).bind fun bt => ((spec_l5Next.f k (m : Int) (cast R) (s : Int)).bind fun bu => (if bu.2 = true then (spec_Concepts.l0 k (out.map (mkC R) ++ [(⟨bt.1, bt.2⟩ : IC)]) bu.1 (m : Int) (cast R)) else (some (out.map (mkC R) ++ [(⟨bt.1, bt.2⟩ : IC)]))))) (fun k => ?_) ?_
    · simp only [spec_Concepts.l0, Option.bind_some]
      congr 1
      funext bt
      rw [if_pos hsmall]
    · refine Ev.bind (con5_val hm hR hrow hs hc) ?_
      dsimp only
      refine Ev.bind (next5_val hm hR hrow hs) ?_
      rw [hsnoc, from_cons C (by omega) hs hc]
      cases hn : nextN (cl m R) s m with
      | none =>
        rw [from_last C (by omega) hs hn]
        exact Ev.congr (fun k => by unfold nxO; rw [if_neg (by decide)]) (Ev.now _)
      | some x =>
        obtain ⟨hx, hxc, hb, _⟩ := next_some C (by omega) hs hn
        unfold bef at hb
        rw [decide_eq_true_iff] at hb
        have hxv := rv_lt (show x < 256 by omega)
        rw [from_next C (by omega) hs hn]
        have := ih x (out ++ [s]) hx hxc (by omega) (by rw [List.length_append, List.length_singleton]; omega)
        rw [List.append_assoc] at this
        exact Ev.congr (fun k => by unfold nxO; dsimp only; rw [if_pos rfl]) this
def conV (n : Int) (l : List Int) : List IC := if ctxB n l = true then conN n.toNat (l.map Int.toNat) else []
theorem conV_nat {m : Nat} {R : List Nat} (hc : ctxB (m : Int) (cast R) = true) : conV (m : Int) (cast R) = conN m R := by
  unfold conV
  rw [if_pos hc, Int.toNat_natCast, uncast]
theorem conN_len (m : Nat) (R : List Nat) : (conN m R).length ≤ 256 := by
  unfold conN
  rw [List.length_map]
  exact keptN_le
theorem conV_len (n : Int) (l : List Int) : (conV n l).length ≤ 256 := by
  unfold conV
  split
  · exact conN_len _ _
  · simp
theorem conS_val (n : Int) (l : List Int) (hl : l.length ≤ 1048576) : Ev (fun k => spec_Concepts.f k n l) (conV n l) := by
  unfold spec_Concepts.f
  simp only [Option.bind_some]
  refine Ev.bind (ctxS_val n l (by omega)) ?_
  cases hc : ctxB n l with
  | false =>
    unfold conV
    rw [hc, if_neg (by decide)]
    exact Ev.congr (fun k => by rw [if_neg (by decide)]) (Ev.now _)
  | true =>
    have hc2 := hc
    obtain ⟨m, R, rfl, hm, rfl, hR, hb⟩ := ctxB_nat hc2
    have hrow := fun i => lt_256 (show m ≤ 8 by omega) (row_lt hb i)
    have h0 := Nat.two_pow_pos m
    have h256 := pow_256 (show m ≤ 8 by omega)
    rw [conV_nat hc]
    refine Ev.congr (fun k => by rw [if_pos rfl]) ?_
    refine Ev.bind (clS4_val m (by omega) R hR hrow 0 (by omega)) ?_
    have := cons_loop hm hR hrow 256 (cl m R 0) [] (cl_lt m R 0) (cl_idem h0) (by omega) (by decide)
    rw [List.nil_append, from_first (clos_cl m R) (by omega)] at this
    exact this
theorem ext_anti {R : List Nat} {s t : Nat} (h : sub s t = true) : sub (ext R t) (ext R s) = true := sub_iff.2 fun i hi => by
  rw [testBit_ext, Bool.and_eq_true] at hi ⊢
  exact ⟨hi.1, sub_trans h hi.2⟩
theorem sub_of_ext {m : Nat} {R : List Nat} {s t : Nat} (hs : cl m R s = s) (ht : cl m R t = t) (h : sub (ext R t) (ext R s) = true) : sub s t = true := by
  rw [← hs, ← ht]
  refine sub_iff.2 fun i hi => ?_
  rw [testBit_cl] at hi ⊢
  refine ⟨hi.1, fun g hg hr => hi.2 g hg ?_⟩
  have := sub_iff.1 h g (by rw [testBit_ext, hr, Bool.and_true]; exact decide_eq_true hg)
  rw [testBit_ext, Bool.and_eq_true] at this
  exact this.2
theorem sub_ext {m : Nat} {R : List Nat} {s t : Nat} (hs : cl m R s = s) (ht : cl m R t = t) : sub (ext R t) (ext R s) = sub s t := by
  rw [Bool.eq_iff_iff]
  exact ⟨sub_of_ext hs ht, ext_anti⟩
theorem sub_or_iff {s t r : Nat} : sub (s ||| t) r = (sub s r && sub t r) := by
  rw [Bool.eq_iff_iff, Bool.and_eq_true, sub_iff, sub_iff, sub_iff]
  constructor
  · intro h
    exact ⟨fun i hi => h i (by rw [Nat.testBit_or, hi]; rfl), fun i hi => h i (by rw [Nat.testBit_or, hi, Bool.or_true])⟩
  · rintro ⟨h1, h2⟩ i hi
    rw [Nat.testBit_or, Bool.or_eq_true] at hi
    exact hi.elim (h1 i) (h2 i)
theorem ext_or {R : List Nat} {s t : Nat} : ext R (s ||| t) = ext R s &&& ext R t := by
  apply Nat.eq_of_testBit_eq
  intro i
  rw [Nat.testBit_and, testBit_ext, testBit_ext, testBit_ext, sub_or_iff]
  cases decide (i < R.length) <;> rfl
theorem ext_cl {m : Nat} {R : List Nat} {a : Nat} (ha : a < 2 ^ m) : ext R (cl m R a) = ext R a := by
  refine sub_antisymm (ext_anti (sub_cl ha)) (sub_iff.2 fun i hi => ?_)
  rw [testBit_ext, Bool.and_eq_true, decide_eq_true_iff] at hi ⊢
  exact ⟨hi.1, cl_sub_row hi.1 hi.2⟩
theorem ext_meet {m : Nat} {R : List Nat} {s t x : Nat} (hs : s < 2 ^ m) (ht : t < 2 ^ m) (hx : cl m R x = x) : ext R x = (ext R s &&& ext R t) ↔ x = int m R (ext R s &&& ext R t) := by
  have hl : s ||| t < 2 ^ m := Nat.or_lt_two_pow hs ht
  rw [← ext_or]
  constructor
  · intro h
    rw [← h]
    exact hx.symm
  · intro h
    rw [show int m R (ext R (s ||| t)) = cl m R (s ||| t) from rfl] at h
    rw [h, ext_cl hl]
abbrev csN (m : Nat) (R : List Nat) : List Nat := keptN m (closedQ m R)
def setN (m : Nat) (R : List Nat) (i : Nat) : Nat := (csN m R).getD i 0
theorem st_get {m : Nat} {R : List Nat} {i : Nat} (h : i < (csN m R).length) : setN m R i = (csN m R)[i] := by
  unfold setN
  rw [List.getD_eq_getElem?_getD, List.getElem?_eq_getElem h]
  rfl
theorem st_mem {m : Nat} (hm : m ≤ 8) {R : List Nat} {i : Nat} (h : i < (csN m R).length) : setN m R i < 2 ^ m ∧ cl m R (setN m R i) = setN m R i := by
  have := (mem_keptN hm).1 (show setN m R i ∈ csN m R by rw [st_get h]; exact List.getElem_mem h)
  unfold closedQ at this
  rw [decide_eq_true_iff] at this
  exact this
theorem st_ex {m : Nat} (hm : m ≤ 8) {R : List Nat} {s : Nat} (hs : s < 2 ^ m) (hc : cl m R s = s) : ∃ i, i < (csN m R).length ∧ setN m R i = s := by
  have : s ∈ csN m R := (mem_keptN hm).2 ⟨hs, decide_eq_true hc⟩
  obtain ⟨i, hi, e⟩ := List.mem_iff_getElem.1 this
  exact ⟨i, hi, by rw [st_get hi]; exact e⟩
theorem st_lt {m : Nat} {R : List Nat} {i j : Nat} (h : i < j) (hj : j < (csN m R).length) : rv (setN m R i) < rv (setN m R j) := by
  rw [st_get (show i < (csN m R).length by omega), st_get hj]
  have : lecS (csN m R) := by
    unfold csN keptN lecR
    exact lecF_sorted _
  exact List.pairwise_iff_getElem.1 this i j _ hj h
theorem st_inj {m : Nat} {R : List Nat} {i j : Nat} (hi : i < (csN m R).length) (hj : j < (csN m R).length) (h : setN m R i = setN m R j) : i = j := by
  rcases Nat.lt_trichotomy i j with e | e | e
  · have := st_lt e hj; rw [h] at this; omega
  · exact e
  · have := st_lt e hi; rw [h] at this; omega
def bel (m : Nat) (R : List Nat) (i j : Nat) : Bool := sub (ext R (setN m R i)) (ext R (setN m R j))
theorem bel_sub {m : Nat} (hm : m ≤ 8) {R : List Nat} {i j : Nat} (hi : i < (csN m R).length) (hj : j < (csN m R).length) : bel m R i j = sub (setN m R j) (setN m R i) := sub_ext (st_mem hm hj).2 (st_mem hm hi).2
theorem bel_trans (m : Nat) (R : List Nat) (a b c : Nat) (h : bel m R a b = true) (k : bel m R b c = true) : bel m R a c = true := sub_trans h k
theorem bel_lt {m : Nat} (hm : m ≤ 8) {R : List Nat} (a b : Nat) (ha : a < (csN m R).length) (hb : b < (csN m R).length) (h : bel m R a b = true) (hne : a ≠ b) : b < a := by
  rw [bel_sub hm ha hb] at h
  have h1 := (st_mem hm ha).1
  have h2 := (st_mem hm hb).1
  rcases sub_bef (lt_256 hm h2) (lt_256 hm h1) h with e | e
  · exact absurd (st_inj hb ha e).symm hne
  · unfold bef at e
    rw [decide_eq_true_iff] at e
    rcases Nat.lt_trichotomy b a with e' | e' | e'
    · exact e'
    · exact absurd e'.symm hne
    · have := st_lt e' hb; omega
theorem cs_pos {m : Nat} (hm : m ≤ 8) (R : List Nat) : 0 < (csN m R).length := by
  obtain ⟨i, hi, _⟩ := st_ex hm (R := R) (cl_lt m R 0) (cl_idem (Nat.two_pow_pos m))
  omega
theorem bel_last {m : Nat} (hm : m ≤ 8) {R : List Nat} {n i : Nat} (hn : (csN m R).length = n + 1) (hi : i < n + 1) : bel m R n i = true := by
  have hf := full_lt m
  have hc : cl m R (full m) = full m := sub_antisymm (sub_full (cl_lt m R (full m))) (sub_cl hf)
  obtain ⟨j, hj, e⟩ := st_ex hm hf hc
  have hn1 : n < (csN m R).length := by omega
  have hlast : setN m R n = full m := by
    rcases sub_bef (lt_256 hm (st_mem hm hn1).1) (lt_256 hm hf) (sub_full (st_mem hm hn1).1) with h | h
    · exact h
    · unfold bef at h
      rw [decide_eq_true_iff, ← e] at h
      by_cases e' : j = n
      · rw [e'] at h; omega
      · have := st_lt (show j < n by omega) hn1
        omega
  rw [bel_sub hm hn1 (by omega), hlast]
  exact sub_full (st_mem hm (by omega)).1
theorem st_first {m : Nat} (hm : m ≤ 8) (R : List Nat) : setN m R 0 = cl m R 0 := by
  have h0 := cs_pos hm R
  obtain ⟨j, hj, e⟩ := st_ex hm (R := R) (cl_lt m R 0) (cl_idem (Nat.two_pow_pos m))
  have h1 := (st_mem hm h0)
  have hs : sub (cl m R 0) (setN m R 0) = true := by
    rw [← h1.2]
    exact cl_mono (sub_iff.2 fun i hi => by rw [Nat.zero_testBit] at hi; cases hi)
  rcases sub_bef (lt_256 hm (cl_lt m R 0)) (lt_256 hm h1.1) hs with h | h
  · exact h.symm
  · unfold bef at h
    rw [decide_eq_true_iff, ← e] at h
    by_cases e' : j = 0
    · rw [e'] at h; omega
    · have := st_lt (show 0 < j by omega) hj
      omega
theorem ext_zero (R : List Nat) : ext R 0 = full R.length := by
  apply Nat.eq_of_testBit_eq
  intro i
  rw [testBit_ext, testBit_full, show sub 0 (row R i) = true from (sub_iff.2 fun i hi => (by rw [Nat.zero_testBit] at hi; cases hi)), Bool.and_true]
theorem ext_first {m : Nat} (hm : m ≤ 8) (R : List Nat) : ext R (setN m R 0) = full R.length := by
  rw [st_first hm, ext_cl (Nat.two_pow_pos m), ext_zero]
theorem meet_ex {m : Nat} (hm : m ≤ 8) {R : List Nat} {a b : Nat} (ha : a < (csN m R).length) (hb : b < (csN m R).length) :
    ∃ k, k < (csN m R).length ∧ ext R (setN m R k) = (ext R (setN m R a) &&& ext R (setN m R b)) ∧ ∀ j, j < (csN m R).length → (ext R (setN m R j) = (ext R (setN m R a) &&& ext R (setN m R b)) ↔ j = k) := by
  have h1 := (st_mem hm ha).1
  have h2 := (st_mem hm hb).1
  have hl : setN m R a ||| setN m R b < 2 ^ m := Nat.or_lt_two_pow h1 h2
  obtain ⟨k, hk, e⟩ := st_ex hm (cl_lt m R (setN m R a ||| setN m R b)) (cl_idem hl)
  have hek : ext R (setN m R k) = (ext R (setN m R a) &&& ext R (setN m R b)) := by rw [e, ext_cl hl, ext_or]
  refine ⟨k, hk, hek, fun j hj => ⟨fun h => ?_, fun h => by rw [h, hek]⟩⟩
  have h3 := (ext_meet h1 h2 (st_mem hm hj).2).1 h
  have h4 := (ext_meet h1 h2 (st_mem hm hk).2).1 hek
  exact st_inj hj hk (h3.trans h4.symm)
theorem join_ex {m : Nat} (hm : m ≤ 8) {R : List Nat} {a b : Nat} (ha : a < (csN m R).length) (hb : b < (csN m R).length) :
    ∃ k, k < (csN m R).length ∧ setN m R k = (setN m R a &&& setN m R b) ∧ ∀ j, j < (csN m R).length → (setN m R j = (setN m R a &&& setN m R b) ↔ j = k) := by
  obtain ⟨h1, c1⟩ := st_mem hm ha
  obtain ⟨h2, c2⟩ := st_mem hm hb
  have hl : setN m R a &&& setN m R b < 2 ^ m := Nat.lt_of_le_of_lt Nat.and_le_left h1
  have hc : cl m R (setN m R a &&& setN m R b) = setN m R a &&& setN m R b := by
    refine sub_antisymm (sub_and ?_ ?_) (sub_cl hl)
    · have := cl_mono (n := m) (rows := R) (and_sub_left (setN m R a) (setN m R b))
      rwa [c1] at this
    · have := cl_mono (n := m) (rows := R) (and_sub_right (setN m R a) (setN m R b))
      rwa [c2] at this
  obtain ⟨k, hk, e⟩ := st_ex hm hl hc
  exact ⟨k, hk, e, fun j hj => ⟨fun h => st_inj hj hk (h.trans e.symm), fun h => by rw [h, e]⟩⟩
theorem bel_meet {m : Nat} {R : List Nat} {a b k i : Nat} (h : ext R (setN m R k) = (ext R (setN m R a) &&& ext R (setN m R b))) : bel m R i k = (bel m R i a && bel m R i b) := by
  unfold bel
  rw [h, Bool.eq_iff_iff, Bool.and_eq_true]
  exact ⟨fun h => ⟨sub_trans h (and_sub_left _ _), sub_trans h (and_sub_right _ _)⟩, fun h => sub_and h.1 h.2⟩
theorem bel_join {m : Nat} (hm : m ≤ 8) {R : List Nat} {a b k i : Nat} (ha : a < (csN m R).length) (hb : b < (csN m R).length) (hk : k < (csN m R).length) (hi : i < (csN m R).length) (h : setN m R k = (setN m R a &&& setN m R b)) : bel m R k i = (bel m R a i && bel m R b i) := by
  rw [bel_sub hm hk hi, bel_sub hm ha hi, bel_sub hm hb hi, h, Bool.eq_iff_iff, Bool.and_eq_true]
  exact ⟨fun h => ⟨sub_trans h (and_sub_left _ _), sub_trans h (and_sub_right _ _)⟩, fun h => sub_and h.1 h.2⟩
theorem con_length (m : Nat) (R : List Nat) : (conN m R).length = (csN m R).length := by unfold conN; rw [List.length_map]
theorem con_get {m : Nat} {R : List Nat} {i : Nat} (h : i < (csN m R).length) (d : IC) : (conN m R).getD i d = mkC R (setN m R i) := by
  rw [List.getD_eq_getElem?_getD, List.getElem?_eq_getElem (by rw [con_length]; exact h)]
  unfold conN
  rw [Option.getD_some, List.getElem_map, st_get h]
  rfl
def undC (l : List IC) (a b : Nat) : Bool := decide (Go.bits .and .i64 (l.getD a z51).f0 (l.getD b z51).f0 = (l.getD a z51).f0)
theorem ext_256 {R : List Nat} (hR : R.length ≤ 8) (s : Nat) : ext R s < 256 := lt_256 hR (ext_lt R s)
theorem undC_bel {m : Nat} {R : List Nat} (hR : R.length ≤ 8) {a b : Nat} (ha : a < (csN m R).length) (hb : b < (csN m R).length) : undC (conN m R) a b = bel m R a b := by
  unfold undC bel sub
  rw [con_get ha, con_get hb]
  unfold mkC
  dsimp only
  rw [and_nat (Nat.lt_trans (ext_256 hR _) (by decide)) (Nat.lt_trans (ext_256 hR _) (by decide)), Bool.eq_iff_iff, decide_eq_true_iff, beq_iff_eq]
  exact ⟨fun h => Int.natCast_inj.1 h, fun h => by rw [h]⟩
theorem idx_con {m : Nat} {R : List Nat} (p : IC → Bool) {k : Nat} (hk : k < (csN m R).length) (h : ∀ j, j < (csN m R).length → (p (mkC R (setN m R j)) = true ↔ j = k)) : idxF p (conN m R) = (k : Int) := by
  refine idxF_hit p _ z51 k (by rw [con_length]; exact hk) (by rw [con_get hk]; exact (h k hk).2 rfl) fun j hj => ?_
  rw [con_get (by omega)]
  have := h j (by omega)
  cases e : p (mkC R (setN m R j)) with
  | false => rfl
  | true => have := this.1 e; omega
theorem meet_idx {m : Nat} (hm : m ≤ 8) {R : List Nat} {a b : Nat} (ha : a < (csN m R).length) (hb : b < (csN m R).length) : ∃ k, k < (csN m R).length ∧ (∀ i, bel m R i k = (bel m R i a && bel m R i b)) ∧
    idxF (fun x : IC => decide (x.f0 = ((ext R (setN m R a) &&& ext R (setN m R b) : Nat) : Int))) (conN m R) = (k : Int) ∧ idxF (fun x : IC => decide (x.f1 = ((int m R (ext R (setN m R a) &&& ext R (setN m R b)) : Nat) : Int))) (conN m R) = (k : Int) := by
  obtain ⟨k, hk, he, hu⟩ := meet_ex hm ha hb
  refine ⟨k, hk, fun i => bel_meet he, idx_con _ hk fun j hj => ?_, idx_con _ hk fun j hj => ?_⟩
  · rw [decide_eq_true_iff, ← hu j hj]
    exact ⟨fun h => Int.natCast_inj.1 h, fun h => congrArg (fun n : Nat => (n : Int)) h⟩
  · rw [decide_eq_true_iff, ← hu j hj, ext_meet (st_mem hm ha).1 (st_mem hm hb).1 (st_mem hm hj).2]
    exact ⟨fun h => Int.natCast_inj.1 h, fun h => congrArg (fun n : Nat => (n : Int)) h⟩
theorem join_idx {m : Nat} (hm : m ≤ 8) {R : List Nat} {a b : Nat} (ha : a < (csN m R).length) (hb : b < (csN m R).length) : ∃ k, k < (csN m R).length ∧ (∀ i, i < (csN m R).length → bel m R k i = (bel m R a i && bel m R b i)) ∧
    idxF (fun x : IC => decide (x.f1 = ((setN m R a &&& setN m R b : Nat) : Int))) (conN m R) = (k : Int) := by
  obtain ⟨k, hk, he, hu⟩ := join_ex hm ha hb
  refine ⟨k, hk, fun i hi => bel_join hm ha hb hk hi he, idx_con _ hk fun j hj => ?_⟩
  rw [decide_eq_true_iff, ← hu j hj]
  exact ⟨fun h => Int.natCast_inj.1 h, fun h => congrArg (fun n : Nat => (n : Int)) h⟩
theorem top_idx {m : Nat} (hm : m ≤ 8) (R : List Nat) : idxF (fun x : IC => decide (x.f0 = ((full R.length : Nat) : Int))) (conN m R) = 0 := by
  refine idx_con (k := 0) _ (cs_pos hm R) fun j hj => ?_
  rw [decide_eq_true_iff, ← ext_first hm R]
  refine ⟨fun h => ?_, fun h => by rw [h]; rfl⟩
  have h : ext R (setN m R j) = ext R (setN m R 0) := Int.natCast_inj.1 h
  have e : setN m R j = setN m R 0 := sub_antisymm (sub_of_ext (st_mem hm hj).2 (st_mem hm (cs_pos hm R)).2 (by rw [h]; exact sub_refl _)) (sub_of_ext (st_mem hm (cs_pos hm R)).2 (st_mem hm hj).2 (by rw [h]; exact sub_refl _))
  exact st_inj hj (cs_pos hm R) e
theorem conI_val (n : Int) (l : List Int) : Ev (fun k => impl_Concepts.f k n l) (conV n l) := by
  cases hc : ctxB n l with
  | false =>
    unfold impl_Concepts.f conV
    rw [ctxI_val]
    simp only [Option.bind_some]
    exact Ev.congr (fun k => by rw [hc, if_neg (by decide), if_neg (by decide)]) (Ev.now _)
  | true =>
    have hc2 := hc
    obtain ⟨m, R, rfl, hm, rfl, hR, hb⟩ := ctxB_nat hc2
    rw [conV_nat hc]
    exact con_val hm hR hb hc
theorem belI_bel {m : Nat} {R : List Nat} (hR : R.length ≤ 8) {a b : Nat} (ha : a < (csN m R).length) (hb : b < (csN m R).length) : belI (conN m R) a b = bel m R a b := by
  unfold belI bel
  rw [con_get ha, con_get hb]
  unfold mkC
  dsimp only
  rw [Bool.eq_iff_iff, beq_iff_eq]
  exact andNot_is (ext_256 hR _) (ext_256 hR _)
theorem conV_ctx {n : Int} {l : List Int} (h : (conV n l).length ≠ 0) : ∃ (m : Nat) (R : List Nat), n = (m : Int) ∧ m ≤ 6 ∧ l = cast R ∧ R.length ≤ 8 ∧ (∀ r ∈ R, r < 2 ^ m) ∧ ctxB (m : Int) (cast R) = true ∧ conV n l = conN m R := by
  cases hc : ctxB n l with
  | false =>
    unfold conV at h
    rw [hc, if_neg (by decide)] at h
    exact absurd rfl h
  | true =>
    have hc2 := hc
    obtain ⟨m, R, rfl, hm, rfl, hR, hb⟩ := ctxB_nat hc2
    exact ⟨m, R, rfl, hm, rfl, hR, hb, hc, conV_nat hc⟩
theorem conV_down (n : Int) (l : List Int) (a b : Nat) (ha : a < (conV n l).length) (hb : b < (conV n l).length) (h : belI (conV n l) a b = true) (hne : a ≠ b) : b < a := by
  obtain ⟨m, R, rfl, hm, rfl, hR, _, _, e⟩ := conV_ctx (show (conV n l).length ≠ 0 by omega)
  rw [e, con_length] at ha hb
  rw [e, belI_bel hR ha hb] at h
  exact bel_lt (show m ≤ 8 by omega) a b ha hb h hne
theorem conV_trans (n : Int) (l : List Int) (a b c : Nat) (ha : a < (conV n l).length) (hb : b < (conV n l).length) (hc : c < (conV n l).length) (h : belI (conV n l) a b = true) (k : belI (conV n l) b c = true) : belI (conV n l) a c = true := by
  obtain ⟨m, R, rfl, hm, rfl, hR, _, _, e⟩ := conV_ctx (show (conV n l).length ≠ 0 by omega)
  rw [e, con_length] at ha hb hc
  rw [e, belI_bel hR ha hb] at h
  rw [e, belI_bel hR hb hc] at k
  rw [e, belI_bel hR ha hc]
  exact bel_trans m R a b c h k
def heightV (n : Int) (l : List Int) : Int := if (conV n l).length = 0 then -1 else ((far (belI (conV n l)) ((conV n l).length - 1) : Nat) : Int)
def inB (L : List IC) (a : Int) : Bool := decide (0 ≤ a ∧ a ≤ (L.length : Int) - 1)
theorem inB_nat {L : List IC} {a : Int} (h : inB L a = true) : ∃ i : Nat, a = (i : Int) ∧ i < L.length := by
  unfold inB at h
  rw [decide_eq_true_iff] at h
  exact ⟨a.toNat, by omega, by omega⟩
theorem inB_mk {L : List IC} {i : Nat} (h : i < L.length) : inB L (i : Int) = true := by
  unfold inB
  rw [decide_eq_true_iff]
  omega
theorem wrap_len {L : List IC} (hl : L.length ≤ 256) : wrap64 ((L.length : Int) - 1) = (L.length : Int) - 1 := by unfold wrap64; omega
theorem hasL_val {L : List IC} (hl : L.length ≤ 256) (a : Int) : impl_lattice_has.f L a = some (inB L a) := by
  unfold impl_lattice_has.f
  rw [wrap_len hl, within_val]
  rfl
theorem exL_val {L : List IC} (hl : L.length ≤ 256) (a : Int) : spec_l6Exists.f L a = some (inB L a) := by
  unfold spec_l6Exists.f
  rw [wrap_len hl, l1In_val]
  rfl
theorem und_belI (n : Int) (l : List Int) {i j : Nat} (hi : i < (conV n l).length) (hj : j < (conV n l).length) : (Go.bits .and .i64 ((conV n l).getD i z51).f0 ((conV n l).getD j z51).f0 == ((conV n l).getD i z51).f0) = belI (conV n l) i j := by
  obtain ⟨m, R, rfl, hm, rfl, hR, _, _, e⟩ := conV_ctx (show (conV n l).length ≠ 0 by omega)
  rw [e, con_length] at hi hj
  rw [e, belI_bel hR hi hj, ← undC_bel hR hi hj]
  unfold undC
  rw [Bool.eq_iff_iff, beq_iff_eq, decide_eq_true_iff]
theorem underS_val (n : Int) (l : List Int) {i j : Nat} (hi : i < (conV n l).length) (hj : j < (conV n l).length) : spec_l6Under.f (rd_T51 (conV n l) (i : Int)).f0 (rd_T51 (conV n l) (i : Int)).f1 (rd_T51 (conV n l) (j : Int)).f0 (rd_T51 (conV n l) (j : Int)).f1 = some (belI (conV n l) i j) := by
  unfold spec_l6Under.f
  rw [← und_belI n l hi hj]
  rfl
def belV (n : Int) (l : List Int) (a b : Int) : Bool := inB (conV n l) a && (inB (conV n l) b && belI (conV n l) a.toNat b.toNat)
theorem belV_nat {n : Int} {l : List Int} {i j : Nat} (hi : i < (conV n l).length) (hj : j < (conV n l).length) : belV n l (i : Int) (j : Int) = belI (conV n l) i j := by
  unfold belV
  rw [inB_mk hi, inB_mk hj, Int.toNat_natCast, Int.toNat_natCast, Bool.true_and, Bool.true_and]
theorem belowI6_val (n : Int) (l : List Int) (a b : Int) : Ev (fun k => impl_IsBelow.f k n l a b) (belV n l a b) := by
  have hl := conV_len n l
  unfold impl_IsBelow.f belV
  refine Ev.bind (conI_val n l) ?_
  rw [hasL_val hl, hasL_val hl]
  simp only [Option.bind_some]
  cases ha : inB (conV n l) a with
  | false => exact Ev.congr (fun k => by rw [if_neg (by decide)]; rfl) (Ev.now _)
  | true =>
    cases hb : inB (conV n l) b with
    | false => exact Ev.congr (fun k => by rw [if_pos rfl, if_neg (by decide)]; rfl) (Ev.now _)
    | true =>
      obtain ⟨i, rfl, hi⟩ := inB_nat ha
      obtain ⟨j, rfl, hj⟩ := inB_nat hb
      exact Ev.congr (fun k => by rw [if_pos rfl, if_pos rfl, belowI_val _ hi hj, Option.bind_some]; rfl) (Ev.now _)
theorem belowS6_val (n : Int) (l : List Int) (hn : l.length ≤ 1048576) (a b : Int) : Ev (fun k => spec_IsBelow.f k n l a b) (belV n l a b) := by
  have hl := conV_len n l
  unfold spec_IsBelow.f belV
  refine Ev.bind (conS_val n l hn) ?_
  rw [exL_val hl, exL_val hl]
  simp only [Option.bind_some]
  cases ha : inB (conV n l) a with
  | false => exact Ev.congr (fun k => by rw [if_neg (by decide)]; rfl) (Ev.now _)
  | true =>
    cases hb : inB (conV n l) b with
    | false => exact Ev.congr (fun k => by rw [if_pos rfl, if_neg (by decide)]; rfl) (Ev.now _)
    | true =>
      obtain ⟨i, rfl, hi⟩ := inB_nat ha
      obtain ⟨j, rfl, hj⟩ := inB_nat hb
      exact Ev.congr (fun k => by rw [if_pos rfl, if_pos rfl, if_pos (by omega), if_pos (by omega), if_pos (by omega), if_pos (by omega), underS_val n l hi hj]; rfl) (Ev.now _)
theorem at6_loop (L : List IC) (x : Int) (hl : L.length ≤ 256) : ∀ d i, i + d = L.length → (∀ j, j < i → decide ((L.getD j z51).f1 = x) = false) → Ev (fun k => spec_l6At.l0 k L x (i : Int)) (idxF (fun c : IC => decide (c.f1 = x)) L) := by
  intro d
  induction d with
  | zero =>
    intro i hi hno
    rw [(idxF_miss (fun c : IC => decide (c.f1 = x)) L z51 fun j hj => hno j (by omega)).1]
    refine Ev.step (f := fun _ => some (-1)) (fun k => ?_) (Ev.now _)
    simp only [spec_l6At.l0]
    rw [if_neg (by omega)]
  | succ d ih =>
    intro i hi hno
    have e : rd_T51 L (i : Int) = L.getD i z51 := rfl
    by_cases hx : (L.getD i z51).f1 = x
    · rw [idxF_hit (fun c : IC => decide (c.f1 = x)) L z51 i (by omega) (decide_eq_true hx) hno]
      refine Ev.step (f := fun _ => some (i : Int)) (fun k => ?_) (Ev.now _)
      simp only [spec_l6At.l0]
      rw [if_pos (by omega), if_pos (by omega), e, if_pos hx]
    · refine Ev.step (fun k => ?_) (ih (i + 1) (by omega) fun j hj => ?_)
      · simp only [spec_l6At.l0]
        rw [if_pos (by omega), if_pos (by omega), e, if_neg hx, show wrap64 ((i : Int) + 1) = ((i + 1 : Nat) : Int) from by unfold wrap64; omega]
      · by_cases ej : j = i
        · subst ej
          exact decide_eq_false hx
        · exact hno j (by omega)
theorem at6_val (L : List IC) (x : Int) (hl : L.length ≤ 256) : Ev (fun k => spec_l6At.f k L x) (idxF (fun c : IC => decide (c.f1 = x)) L) := at6_loop L x hl L.length 0 (by omega) fun j hj => by omega
theorem idxI_val (L : List IC) (x : Int) : impl_lattice_index.f L x = some (idxF (fun c : IC => decide (c.f0 = x)) L) := by
  unfold impl_lattice_index.f impl_lattice_index_IndexFunc0.f
  rfl
def meetV (n : Int) (l : List Int) (a b : Int) : Int := if inB (conV n l) a = true ∧ inB (conV n l) b = true then idxF (fun c : IC => decide (c.f0 = Go.bits .and .i64 ((conV n l).getD a.toNat z51).f0 ((conV n l).getD b.toNat z51).f0)) (conV n l) else -1
def joinV (n : Int) (l : List Int) (a b : Int) : Int := if inB (conV n l) a = true ∧ inB (conV n l) b = true then idxF (fun c : IC => decide (c.f1 = Go.bits .and .i64 ((conV n l).getD a.toNat z51).f1 ((conV n l).getD b.toNat z51).f1)) (conV n l) else -1
theorem meetI_val (n : Int) (l : List Int) (a b : Int) : Ev (fun k => impl_MeetOf.f k n l a b) (meetV n l a b) := by
  have hl := conV_len n l
  unfold impl_MeetOf.f meetV
  refine Ev.bind (conI_val n l) ?_
  rw [hasL_val hl, hasL_val hl]
  simp only [Option.bind_some]
  cases ha : inB (conV n l) a with
  | false => exact Ev.congr (fun k => by rw [if_neg (by decide), if_neg (fun h => by cases h.1)]) (Ev.now _)
  | true =>
    cases hb : inB (conV n l) b with
    | false => exact Ev.congr (fun k => by rw [if_pos rfl, if_neg (by decide), if_neg (fun h => by cases h.2)]) (Ev.now _)
    | true =>
      obtain ⟨i, rfl, hi⟩ := inB_nat ha
      obtain ⟨j, rfl, hj⟩ := inB_nat hb
      refine Ev.congr (fun k => ?_) (Ev.now _)
      unfold impl_lattice_meet.f
      rw [if_pos rfl, if_pos rfl, if_pos (by omega), if_pos (by omega), if_pos (by omega), if_pos (by omega), idxI_val, if_pos ⟨rfl, rfl⟩]
      rfl
theorem joinI_val (n : Int) (l : List Int) (a b : Int) : Ev (fun k => impl_JoinOf.f k n l a b) (joinV n l a b) := by
  have hl := conV_len n l
  unfold impl_JoinOf.f joinV
  refine Ev.bind (conI_val n l) ?_
  rw [hasL_val hl, hasL_val hl]
  simp only [Option.bind_some]
  cases ha : inB (conV n l) a with
  | false => exact Ev.congr (fun k => by rw [if_neg (by decide), if_neg (fun h => by cases h.1)]) (Ev.now _)
  | true =>
    cases hb : inB (conV n l) b with
    | false => exact Ev.congr (fun k => by rw [if_pos rfl, if_neg (by decide), if_neg (fun h => by cases h.2)]) (Ev.now _)
    | true =>
      obtain ⟨i, rfl, hi⟩ := inB_nat ha
      obtain ⟨j, rfl, hj⟩ := inB_nat hb
      refine Ev.congr (fun k => ?_) (Ev.now _)
      unfold impl_lattice_join.f impl_lattice_join_IndexFunc0.f
      rw [if_pos rfl, if_pos rfl, if_pos (by omega), if_pos (by omega), if_pos (by omega), if_pos (by omega), if_pos ⟨rfl, rfl⟩]
      rfl
theorem ext_and {m : Nat} {R : List Nat} (hR : R.length ≤ 8) {i j : Nat} (hi : i < (csN m R).length) (hj : j < (csN m R).length) : Go.bits .and .i64 ((conN m R).getD i z51).f0 ((conN m R).getD j z51).f0 = ((ext R (setN m R i) &&& ext R (setN m R j) : Nat) : Int) := by
  rw [con_get hi, con_get hj]
  exact and_nat (Nat.lt_trans (ext_256 hR _) (by decide)) (Nat.lt_trans (ext_256 hR _) (by decide))
theorem set_and {m : Nat} (hm : m ≤ 8) {R : List Nat} {i j : Nat} (hi : i < (csN m R).length) (hj : j < (csN m R).length) : Go.bits .and .i64 ((conN m R).getD i z51).f1 ((conN m R).getD j z51).f1 = ((setN m R i &&& setN m R j : Nat) : Int) := by
  rw [con_get hi, con_get hj]
  exact and_nat (Nat.lt_trans (lt_256 hm (st_mem hm hi).1) (by decide)) (Nat.lt_trans (lt_256 hm (st_mem hm hj).1) (by decide))
theorem meetS_val (n : Int) (l : List Int) (hn : l.length ≤ 1048576) (a b : Int) : Ev (fun k => spec_MeetOf.f k n l a b) (meetV n l a b) := by
  have hl := conV_len n l
  unfold spec_MeetOf.f meetV
  refine Ev.bind (conS_val n l hn) ?_
  rw [exL_val hl, exL_val hl]
  simp only [Option.bind_some]
  have no : Ev (fun k => spec_MeetOf.j0 k a b (conV n l) true n l) (-1) := by
    refine Ev.step (f := fun _ => some (-1)) (fun k => ?_) (Ev.now _)
    simp only [spec_MeetOf.j0]
    rw [if_pos trivial]
  cases ha : inB (conV n l) a with
  | false =>
    rw [if_neg (fun h => by cases h.1)]
    exact Ev.congr (fun k => by rw [if_neg (by decide)]) no
  | true =>
    cases hb : inB (conV n l) b with
    | false =>
      rw [if_neg (fun h => by cases h.2)]
      exact Ev.congr (fun k => by rw [if_pos rfl]; rfl) no
    | true =>
      rw [if_pos ⟨rfl, rfl⟩]
      obtain ⟨i, rfl, hi⟩ := inB_nat ha
      obtain ⟨j, rfl, hj⟩ := inB_nat hb
      obtain ⟨m, R, rfl, hm, rfl, hR, hbd, hc, e⟩ := conV_ctx (show (conV n l).length ≠ 0 by omega)
      rw [e] at hi hj hl ⊢
      have hi2 := hi
      have hj2 := hj
      rw [con_length] at hi hj
      rw [Int.toNat_natCast, Int.toNat_natCast]
      obtain ⟨q, _, _, e1, e2⟩ := meet_idx (show m ≤ 8 by omega) (R := R) hi hj
      have hlt : ext R (setN m R i) &&& ext R (setN m R j) < 256 := Nat.lt_of_le_of_lt Nat.and_le_left (ext_256 hR _)
      rw [ext_and hR hi hj, e1, ← e2]
      refine Ev.congr (fun k => by rw [if_pos rfl]) ?_
      refine Ev.step (f := fun k => (spec_l4Intent.f k (m : Int) (cast R) ((ext R (setN m R i) &&& ext R (setN m R j) : Nat) : Int)).bind fun t => (spec_l6At.f k (conN m R) t).bind fun u => some u) (fun k => ?_) ?_
      · simp only [spec_MeetOf.j0]
        rw [if_neg (by decide), if_pos (by omega), if_pos (by omega), if_pos (by omega), if_pos (by omega)]
        rw [← ext_and hR hi hj]
        rfl
      · refine Ev.bind (intS_val m (by omega) R hR (fun i => lt_256 (show m ≤ 8 by omega) (row_lt hbd i)) _ hlt) ?_
        exact Ev.bind (at6_val _ _ hl) (Ev.now _)
theorem joinS_val (n : Int) (l : List Int) (hn : l.length ≤ 1048576) (a b : Int) : Ev (fun k => spec_JoinOf.f k n l a b) (joinV n l a b) := by
  have hl := conV_len n l
  unfold spec_JoinOf.f joinV
  refine Ev.bind (conS_val n l hn) ?_
  rw [exL_val hl, exL_val hl]
  simp only [Option.bind_some]
  cases ha : inB (conV n l) a with
  | false => exact Ev.congr (fun k => by rw [if_neg (by decide), if_neg (fun h => by cases h.1)]) (Ev.now _)
  | true =>
    cases hb : inB (conV n l) b with
    | false => exact Ev.congr (fun k => by rw [if_pos rfl, if_neg (by decide), if_neg (fun h => by cases h.2)]) (Ev.now _)
    | true =>
      rw [if_pos ⟨rfl, rfl⟩]
      obtain ⟨i, rfl, hi⟩ := inB_nat ha
      obtain ⟨j, rfl, hj⟩ := inB_nat hb
      refine Ev.congr (fun k => by rw [if_pos rfl, if_pos rfl, if_pos (by omega), if_pos (by omega), if_pos (by omega), if_pos (by omega)]) ?_
      exact Ev.bind (at6_val _ _ hl) (Ev.now _)
theorem meetV_is {n : Int} {l : List Int} {i j : Nat} (hi : i < (conV n l).length) (hj : j < (conV n l).length) : ∃ q : Nat, q < (conV n l).length ∧ meetV n l (i : Int) (j : Int) = (q : Int) ∧ ∀ x, x < (conV n l).length → belI (conV n l) x q = (belI (conV n l) x i && belI (conV n l) x j) := by
  unfold meetV
  rw [if_pos ⟨inB_mk hi, inB_mk hj⟩]
  obtain ⟨m, R, rfl, hm, rfl, hR, hbd, hc, e⟩ := conV_ctx (show (conV n l).length ≠ 0 by omega)
  rw [e] at hi hj ⊢
  rw [con_length] at hi hj ⊢
  rw [Int.toNat_natCast, Int.toNat_natCast]
  obtain ⟨q, hq, h1, e1, _⟩ := meet_idx (show m ≤ 8 by omega) (R := R) hi hj
  refine ⟨q, hq, by rw [ext_and hR hi hj]; exact e1, fun x hx => ?_⟩
  rw [belI_bel hR hx hq, belI_bel hR hx hi, belI_bel hR hx hj]
  exact h1 x
theorem joinV_is {n : Int} {l : List Int} {i j : Nat} (hi : i < (conV n l).length) (hj : j < (conV n l).length) : ∃ q : Nat, q < (conV n l).length ∧ joinV n l (i : Int) (j : Int) = (q : Int) ∧ ∀ x, x < (conV n l).length → belI (conV n l) q x = (belI (conV n l) i x && belI (conV n l) j x) := by
  unfold joinV
  rw [if_pos ⟨inB_mk hi, inB_mk hj⟩]
  obtain ⟨m, R, rfl, hm, rfl, hR, hbd, hc, e⟩ := conV_ctx (show (conV n l).length ≠ 0 by omega)
  rw [e] at hi hj ⊢
  rw [con_length] at hi hj ⊢
  rw [Int.toNat_natCast, Int.toNat_natCast]
  obtain ⟨q, hq, h1, e1⟩ := join_idx (show m ≤ 8 by omega) (R := R) hi hj
  refine ⟨q, hq, by rw [set_and (show m ≤ 8 by omega) hi hj]; exact e1, fun x hx => ?_⟩
  rw [belI_bel hR hq hx, belI_bel hR hi hx, belI_bel hR hj hx]
  exact h1 x hx
theorem belI_refl (n : Int) (l : List Int) {i : Nat} (hi : i < (conV n l).length) : belI (conV n l) i i = true := by
  obtain ⟨m, R, rfl, hm, rfl, hR, hbd, hc, e⟩ := conV_ctx (show (conV n l).length ≠ 0 by omega)
  rw [e, con_length] at hi
  rw [e, belI_bel hR hi hi]
  exact sub_refl _
theorem meetV_neg {n : Int} {l : List Int} {a b : Int} (h : ¬ (inB (conV n l) a = true ∧ inB (conV n l) b = true)) : meetV n l a b = -1 ∧ joinV n l a b = -1 := by
  unfold meetV joinV
  rw [if_neg h, if_neg h]
  exact ⟨rfl, rfl⟩
def topV (n : Int) (l : List Int) : Int := if ctxB n l = true then 0 else -1
theorem topI_val (n : Int) (l : List Int) : Ev (fun k => impl_TopOf.f k n l) (topV n l) := by
  unfold impl_TopOf.f topV
  rw [ctxI_val]
  simp only [Option.bind_some]
  cases hc : ctxB n l with
  | false => exact Ev.congr (fun k => by rw [if_neg (by decide), if_neg (by decide)]) (Ev.now _)
  | true =>
    rw [if_pos rfl]
    refine Ev.congr (fun k => by rw [if_pos rfl]) ?_
    refine Ev.bind (conI_val n l) ?_
    rw [fullI_val, Option.bind_some, idxI_val, Option.bind_some]
    obtain ⟨m, R, rfl, hm, rfl, hR, hb⟩ := ctxB_nat hc
    rw [conV_nat hc, cast_length, fullN hR, top_idx (show m ≤ 8 by omega) R]
    exact Ev.now _
theorem topS_val (n : Int) (l : List Int) (hn : l.length ≤ 1048576) : Ev (fun k => spec_TopOf.f k n l) (topV n l) := by
  unfold spec_TopOf.f topV
  refine Ev.bind (ctxS_val n l (by omega)) ?_
  cases hc : ctxB n l with
  | false => exact Ev.congr (fun k => by rw [if_neg (by decide), if_neg (by decide)]) (Ev.now _)
  | true => exact Ev.congr (fun k => by rw [if_pos rfl, if_pos rfl]) (Ev.now _)
def botV (n : Int) (l : List Int) : Int := wrap64 (((conV n l).length : Int) - 1)
theorem botI_val (n : Int) (l : List Int) : Ev (fun k => impl_BottomOf.f k n l) (botV n l) := by
  unfold impl_BottomOf.f
  exact Ev.bind (conI_val n l) (Ev.now _)
theorem botS_val (n : Int) (l : List Int) (hn : l.length ≤ 1048576) : Ev (fun k => spec_BottomOf.f k n l) (botV n l) := by
  unfold spec_BottomOf.f
  exact Ev.bind (conS_val n l hn) (Ev.now _)
end Go.Proofs.YtfmpafgmcleogaaGreatDoor.Pu
