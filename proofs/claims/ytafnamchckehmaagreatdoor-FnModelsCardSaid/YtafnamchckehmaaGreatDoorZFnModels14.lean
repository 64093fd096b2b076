/- What the law needs of the program's functions as plain functions, of the proofs that their calls answer so, and of plain laws: gathered by a program of this place (pack.py) out of its printed texts. No condition beyond what each statement says. -/
import Derived.Test.YtafnamchckehmaaGreatDoorZFnModels12
import Derived.Test.YtafnamchckehmaaGreatDoorZFnModels10
import Derived.Test.YtafnamchckehmaaGreatDoorZFnModels2
import Derived.Shelf.SlSortCmp.Kit1
import Derived.Shelf.RegionOpenPlain
import Derived.Sort.WalkB2
import Derived.Sort.WalkB12
import Derived.Deep.LoopGhost
import Derived.Sort.WalkA
import Derived.Test.YtafnamchckehmaaGreatDoorZFnModels3
import Derived.Test.YtafnamchckehmaaGreatDoorZFnModels6
import Derived.Test.YtafnamchckehmaaGreatDoorZFnModels5
import Derived.Test.YtafnamchckehmaaGreatDoorZFnModels9
import Derived.Test.YtafnamchckehmaaGreatDoorZFnModels7
import Derived.Test.YtafnamchckehmaaGreatDoorZFnModels8
import Derived.Test.YtafnamchckehmaaGreatDoorZFnModels11
import Derived.Shelf.Abstract
namespace Go.Proofs.YtafnamchckehmaaGreatDoor.Pu
open Go.RowKit Go.Proofs.YtafnamchckehmaaGreatDoorW.PrintWords Go.Proofs.YtafnamchckehmaaGreatDoorW.PrintLast Go.Proofs.YtafnamchckehmaaGreatDoorW.PrintMore Go.Proofs.YtafnamchckehmaaGreatDoor.Pr
def allN (m : Nat) : List Nat := lecR (List.range (2 ^ m))
theorem range_lt {m : Nat} (hm : m ≤ 8) : ∀ x ∈ List.range (2 ^ m), x < 256 := fun x hx => by
  have := pow_256 hm
  rw [List.mem_range] at hx
  omega
theorem mem_allN {m : Nat} (hm : m ≤ 8) {x : Nat} : x ∈ allN m ↔ x < 2 ^ m := by
  unfold allN
  rw [mem_lecR (range_lt hm), List.mem_range]
theorem allN_length {m : Nat} (hm : m ≤ 8) : (allN m).length = 2 ^ m := by
  unfold allN
  rw [lecR_length (range_lt hm) List.nodup_range, List.length_range]
theorem allN_row {m : Nat} (hm : m ≤ 8) {i : Nat} (hi : i < (allN m).length) : row (allN m) i < 2 ^ m := by
  unfold row
  rw [List.getD_eq_getElem?_getD, List.getElem?_eq_getElem hi]
  exact (mem_allN hm).1 (List.getElem_mem _)
theorem all_val {m : Nat} (hm : m ≤ 8) : Ev (fun k => impl_allSets.f k (m : Int)) (cast (allN m)) := by
  have hp := pow_256 hm
  have h1 := Nat.two_pow_pos m
  have hs : impl_SortLectic.f (cast (List.range (2 ^ m))) = some (cast (allN m)) := by
    unfold impl_SortLectic.f
    rw [if_pos ⟨cast_any (range_lt hm), cast_nodup List.nodup_range, by rw [cast_length, List.length_range]; exact h1⟩]
    have e : (cast (List.range (2 ^ m))).map Int.toNat = List.range (2 ^ m) := by
      unfold cast
      rw [List.map_map]
      exact List.map_id _
    rw [e]
    rfl
  unfold impl_allSets.f
  rw [shl_one m hm]
  refine Ev.congr (fun k => by rw [if_pos (by omega)]) ?_
  refine ev_fold (g := fun k (a : List Nat) i => impl_allSets.l0 k (cast a) ((2 ^ m : Nat) : Int) i) (rangeStep fun _ => true) (fun i a => a.length ≤ i) (N := 2 ^ m) ?_ (fun i a _ h => rangeStep_len _ i a h) (2 ^ m) 0 [] (by omega) (Nat.le_refl _) ?_
  · intro i a hi ha h
    refine Ev.step (fun k => ?_) h
    simp only [impl_allSets.l0]
    rw [if_pos (by omega), if_pos (by rw [cast_length]; omega), castOne, show wrap64 ((i : Int) + 1) = ((i + 1 : Nat) : Int) from by unfold wrap64; omega]
    rfl
  · intro b hb _
    rw [range_all, List.filter_eq_self.2 (fun _ _ => rfl)] at hb
    subst hb
    refine Ev.step (f := fun _ => some (cast (allN m))) (fun k => ?_) (Ev.now _)
    simp only [impl_allSets.l0]
    rw [if_neg (by omega), hs]
    rfl
def keptN (m : Nat) (q : Nat → Bool) : List Nat := lecR ((List.range (2 ^ m)).filter q)
theorem keptN_eq (m : Nat) (q : Nat → Bool) : (allN m).filter q = keptN m q := lecR_filter q
theorem filt_lt {m : Nat} (hm : m ≤ 8) (q : Nat → Bool) : ∀ x ∈ (List.range (2 ^ m)).filter q, x < 256 := fun x hx => range_lt hm x ((List.mem_filter.1 hx).1)
theorem mem_keptN {m : Nat} (hm : m ≤ 8) {q : Nat → Bool} {x : Nat} : x ∈ keptN m q ↔ x < 2 ^ m ∧ q x = true := by
  unfold keptN
  rw [mem_lecR (filt_lt hm q), List.mem_filter, List.mem_range]
theorem keptN_le {m : Nat} {q : Nat → Bool} : (keptN m q).length ≤ 256 := lecR_len
end Go.Proofs.YtafnamchckehmaaGreatDoor.Pu
namespace Go.Proofs.YtafnamchckehmaaGreatDoor.Pu
open Go.Proofs.YtafnamchckehmaaGreatDoor.Pr
theorem lecR_congr {A B : List Nat} (h : ∀ x, x ∈ A ↔ x ∈ B) : lecR A = lecR B := by
  unfold lecR
  exact lecF_congr fun s _ => decide_eq_decide.2 (h s)
def psN (m : Nat) (c : Nat → Nat) : List Nat := keptN m (isP c)
theorem lec_pl (c : Nat → Nat) (m : Nat) : lecR (pl c (2 ^ m)) = psN m c := by
  unfold psN keptN
  refine lecR_congr fun x => ?_
  rw [mem_pl, List.mem_filter, List.mem_range]
end Go.Proofs.YtafnamchckehmaaGreatDoor.Pu
namespace Go.Proofs.YtafnamchckehmaaGreatDoor.Pu
theorem clos_cl (m : Nat) (R : List Nat) : Clos m (cl m R) where
  lt := fun s _ => cl_lt m R s
  ext := fun _ hs => sub_cl hs
  mono := fun _ _ _ _ h => cl_mono h
  idem := fun _ hs => cl_idem hs
theorem clos_clo {m : Nat} (hm : m ≤ 8) {R : Rules} (h : within m R) : Clos m (clo R) where
  lt := fun _ hs => clo_in hm h hs
  ext := fun _ hs => (clo_spec (within_small hm h) (by have := pow_le_256 hm; omega)).2.1
  mono := fun _ _ hs ht k => clo_mono (within_small hm h) (by have := pow_le_256 hm; omega) (by have := pow_le_256 hm; omega) k
  idem := fun _ hs => clo_idem (within_small hm h) (by have := pow_le_256 hm; omega)
theorem isP_congr {c d : Nat → Nat} {m : Nat} (h : ∀ s, s < 2 ^ m → c s = d s) : ∀ s, s < 2 ^ m → isP c s = isP d s := by
  have hpl : ∀ k, k ≤ 2 ^ m → pl c k = pl d k := by
    intro k
    induction k with
    | zero => intro _; rfl
    | succ k ih =>
      intro hk
      have e := ih (by omega)
      unfold pl
      rw [e, h k (by omega)]
      have : ((pl d k).all fun p => !sub p k || sub (c p) k) = (pl d k).all fun p => !sub p k || sub (d p) k := by
        rw [Bool.eq_iff_iff, List.all_eq_true, List.all_eq_true]
        constructor
        · intro hh p hp; rw [← h p (by have := (mem_pl.1 hp).1; omega)]; exact hh p hp
        · intro hh p hp; rw [h p (by have := (mem_pl.1 hp).1; omega)]; exact hh p hp
      rw [this]
  intro s hs
  unfold isP
  rw [hpl s (by omega), h s hs]
  congr 1
  rw [Bool.eq_iff_iff, List.all_eq_true, List.all_eq_true]
  constructor
  · intro hh p hp; rw [← h p (by have := (mem_pl.1 hp).1; omega)]; exact hh p hp
  · intro hh p hp; rw [h p (by have := (mem_pl.1 hp).1; omega)]; exact hh p hp
theorem psN_congr {c d : Nat → Nat} {m : Nat} (h : ∀ s, s < 2 ^ m → c s = d s) : psN m c = psN m d := by
  unfold psN keptN
  congr 1
  exact List.filter_congr fun s hs => isP_congr h s (List.mem_range.1 hs)
end Go.Proofs.YtafnamchckehmaaGreatDoor.Pu
namespace Go.Proofs.YtafnamchckehmaaGreatDoor.Pu
theorem low_all : ((List.range 256).all fun d => d == 0 || (List.range 8).any fun j => low d == 2 ^ j && d.testBit j && (List.range j).all fun i => !d.testBit i) = true := by decide +kernel
theorem low_bit {d : Nat} (hd : d < 256) (h0 : d ≠ 0) : ∃ j, j < 8 ∧ low d = 2 ^ j ∧ d.testBit j = true ∧ ∀ i, i < j → d.testBit i = false := by
  have h := List.all_eq_true.1 low_all d (List.mem_range.2 hd)
  rw [Bool.or_eq_true, beq_iff_eq] at h
  rcases h with h | h
  · exact absurd h h0
  · obtain ⟨j, hj, h⟩ := List.any_eq_true.1 h
    rw [Bool.and_eq_true, Bool.and_eq_true, beq_iff_eq] at h
    refine ⟨j, List.mem_range.1 hj, h.1.1, h.1.2, fun i hi => ?_⟩
    have := List.all_eq_true.1 h.2 i (List.mem_range.2 hi)
    simpa using this
theorem and_pow_ne {t j : Nat} : (t &&& 2 ^ j != 0) = t.testBit j := by
  rw [Bool.eq_iff_iff, bne_iff_ne]
  constructor
  · intro h
    refine Classical.byContradiction fun hn => h ?_
    refine Nat.eq_of_testBit_eq fun i => ?_
    rw [Nat.testBit_and, Nat.testBit_two_pow, Nat.zero_testBit]
    by_cases e : j = i
    · subst e; simp [hn]
    · simp [e]
  · intro h e
    have := congrArg (fun x => Nat.testBit x j) e
    simp [Nat.testBit_and, h] at this
theorem bef_iff {s t : Nat} (hs : s < 256) (ht : t < 256) : bef s t = true ↔ ∃ j, s.testBit j = false ∧ t.testBit j = true ∧ ∀ i, i < j → s.testBit i = t.testBit i := by
  have hd : s ^^^ t < 256 := Nat.xor_lt_two_pow (n := 8) hs ht
  rw [← low_bef hs ht]
  constructor
  · intro h
    have h0 : s ^^^ t ≠ 0 := by
      intro e
      rw [e] at h
      simp [low] at h
    obtain ⟨j, _, e, h1, h2⟩ := low_bit hd h0
    rw [e, and_pow_ne] at h
    rw [Nat.testBit_xor, h] at h1
    refine ⟨j, by simpa using h1, h, fun i hi => ?_⟩
    have := h2 i hi
    rw [Nat.testBit_xor] at this
    simpa using this
  · rintro ⟨j, h1, h2, h3⟩
    have hj : (s ^^^ t).testBit j = true := by rw [Nat.testBit_xor, h1, h2]; rfl
    have h0 : s ^^^ t ≠ 0 := by
      intro e
      rw [e, Nat.zero_testBit] at hj
      cases hj
    obtain ⟨j', _, e, k1, k2⟩ := low_bit hd h0
    have : j' = j := by
      rcases Nat.lt_trichotomy j' j with h | h | h
      · have := h3 j' h
        rw [Nat.testBit_xor, this] at k1
        simp at k1
      · exact h
      · rw [k2 j h] at hj
        cases hj
    rw [e, this, and_pow_ne]
    exact h2
def plus (c : Nat → Nat) (s j : Nat) : Nat := c ((s &&& full j) ||| 2 ^ j)
def hitsN (c : Nat → Nat) (s j : Nat) : Bool := !s.testBit j && (plus c s j &&& full j == s &&& full j)
def nextN (c : Nat → Nat) (s : Nat) : Nat → Option Nat
  | 0 => none
  | j + 1 => if hitsN c s j = true then some (plus c s j) else nextN c s j
theorem nextN_some {c : Nat → Nat} {s x : Nat} : ∀ {k : Nat}, nextN c s k = some x → ∃ i, i < k ∧ hitsN c s i = true ∧ x = plus c s i ∧ ∀ i', i < i' → i' < k → hitsN c s i' = false
  | 0, h => by cases h
  | k + 1, h => by
    unfold nextN at h
    by_cases hh : hitsN c s k = true
    · rw [if_pos hh] at h
      exact ⟨k, by omega, hh, (Option.some.inj h).symm, fun i' h1 h2 => by omega⟩
    · rw [if_neg hh] at h
      obtain ⟨i, h1, h2, h3, h4⟩ := nextN_some h
      refine ⟨i, by omega, h2, h3, fun i' k1 k2 => ?_⟩
      by_cases e : i' = k
      · subst e; simpa using hh
      · exact h4 i' k1 (by omega)
theorem nextN_none {c : Nat → Nat} {s : Nat} : ∀ {k : Nat}, nextN c s k = none → ∀ i, i < k → hitsN c s i = false
  | 0, _, i, hi => by omega
  | k + 1, h, i, hi => by
    unfold nextN at h
    by_cases hh : hitsN c s k = true
    · rw [if_pos hh] at h
      cases h
    · rw [if_neg hh] at h
      by_cases e : i = k
      · subst e; simpa using hh
      · exact nextN_none h i (by omega)
theorem testBit_lt {a n i : Nat} (ha : a < 2 ^ n) (h : a.testBit i = true) : i < n := by
  rcases Nat.lt_or_ge i n with k | k
  · exact k
  · rw [Nat.testBit_lt_two_pow (Nat.lt_of_lt_of_le ha (Nat.pow_le_pow_right (by decide) k))] at h
    cases h
theorem arg_lt {n s j : Nat} (hs : s < 2 ^ n) (hj : j < n) : (s &&& full j) ||| 2 ^ j < 2 ^ n := Nat.or_lt_two_pow (Nat.lt_of_le_of_lt Nat.and_le_left hs) (Nat.pow_lt_pow_right (by decide) hj)
theorem arg_bit {s j i : Nat} : ((s &&& full j) ||| 2 ^ j).testBit i = (s.testBit i && decide (i < j) || decide (j = i)) := by
  rw [Nat.testBit_or, Nat.testBit_and, testBit_full, Nat.testBit_two_pow]
theorem hits_iff {c : Nat → Nat} {s j : Nat} : hitsN c s j = true ↔ s.testBit j = false ∧ ∀ i, i < j → (plus c s j).testBit i = s.testBit i := by
  unfold hitsN
  rw [Bool.and_eq_true, beq_iff_eq, Bool.not_eq_true']
  refine and_congr_right fun _ => ⟨fun h i hi => ?_, fun h => Nat.eq_of_testBit_eq fun i => ?_⟩
  · have := congrArg (fun x => Nat.testBit x i) h
    simpa [Nat.testBit_and, testBit_full, hi] using this
  · rw [Nat.testBit_and, Nat.testBit_and, testBit_full]
    by_cases hi : i < j
    · rw [h i hi]
    · rw [decide_eq_false hi, Bool.and_false, Bool.and_false]
theorem next_key {n : Nat} {c : Nat → Nat} (C : Clos n c) {s t j : Nat} (hs : s < 2 ^ n) (ht : t < 2 ^ n) (hc : c t = t) (h1 : s.testBit j = false) (h2 : t.testBit j = true) (h3 : ∀ i, i < j → s.testBit i = t.testBit i) : hitsN c s j = true ∧ sub (plus c s j) t = true := by
  have hj := testBit_lt ht h2
  have ha := arg_lt hs hj
  have hsub : sub ((s &&& full j) ||| 2 ^ j) t = true := sub_iff.2 fun i hi => by
    rw [arg_bit, Bool.or_eq_true, Bool.and_eq_true, decide_eq_true_iff, decide_eq_true_iff] at hi
    rcases hi with ⟨k1, k2⟩ | rfl
    · rw [← h3 i k2]; exact k1
    · exact h2
  have hp : sub (plus c s j) t = true := by
    have := C.mono _ _ ha ht hsub
    rwa [hc] at this
  refine ⟨hits_iff.2 ⟨h1, fun i hi => ?_⟩, hp⟩
  rw [Bool.eq_iff_iff]
  constructor
  · intro h
    rw [h3 i hi]
    exact sub_iff.1 hp i h
  · intro h
    exact sub_iff.1 (C.ext _ ha) i (by rw [arg_bit, h, decide_eq_true hi]; rfl)
theorem plus_bit {n : Nat} {c : Nat → Nat} (C : Clos n c) {s j : Nat} (hs : s < 2 ^ n) (hj : j < n) : (plus c s j).testBit j = true := sub_iff.1 (C.ext _ (arg_lt hs hj)) j (by rw [arg_bit, decide_eq_true rfl, Bool.or_true])
theorem plus_lt {n : Nat} {c : Nat → Nat} (C : Clos n c) {s j : Nat} (hs : s < 2 ^ n) (hj : j < n) : plus c s j < 2 ^ n := C.lt _ (arg_lt hs hj)
theorem plus_closed {n : Nat} {c : Nat → Nat} (C : Clos n c) {s j : Nat} (hs : s < 2 ^ n) (hj : j < n) : c (plus c s j) = plus c s j := C.idem _ (arg_lt hs hj)
theorem sub_bef {s t : Nat} (hs : s < 256) (ht : t < 256) (h : sub s t = true) : s = t ∨ bef s t = true := by
  by_cases e : s = t
  · exact Or.inl e
  · refine Or.inr ?_
    have h0 : s ^^^ t ≠ 0 := fun k => e (xor_zero_eq k)
    obtain ⟨j, _, _, h1, h2⟩ := low_bit (Nat.xor_lt_two_pow (n := 8) hs ht) h0
    refine (bef_iff hs ht).2 ⟨j, ?_, ?_, fun i hi => by have := h2 i hi; rw [Nat.testBit_xor] at this; simpa using this⟩
    · cases hj : s.testBit j with
      | false => rfl
      | true => rw [Nat.testBit_xor, hj, sub_iff.1 h j hj] at h1; cases h1
    · cases hj : t.testBit j with
      | true => rfl
      | false =>
        rw [Nat.testBit_xor, hj, Bool.xor_false] at h1
        rw [sub_iff.1 h j h1] at hj
        cases hj
theorem next_some {n : Nat} {c : Nat → Nat} (C : Clos n c) (hn : n ≤ 8) {s x : Nat} (hs : s < 2 ^ n) (h : nextN c s n = some x) : x < 2 ^ n ∧ c x = x ∧ bef s x = true ∧ ∀ t, t < 2 ^ n → c t = t → bef s t = true → x = t ∨ bef x t = true := by
  have h256 := pow_le_256 hn
  obtain ⟨i, hi, hh, rfl, hno⟩ := nextN_some h
  have hx := plus_lt C hs hi
  obtain ⟨h1, h2⟩ := hits_iff.1 hh
  refine ⟨hx, plus_closed C hs hi, (bef_iff (by omega) (by omega)).2 ⟨i, h1, plus_bit C hs hi, fun j hj => (h2 j hj).symm⟩, fun t ht hc hb => ?_⟩
  obtain ⟨j, k1, k2, k3⟩ := (bef_iff (by omega) (by omega)).1 hb
  obtain ⟨g1, g2⟩ := next_key C hs ht hc k1 k2 k3
  have hj := testBit_lt ht k2
  rcases Nat.lt_trichotomy i j with hlt | rfl | hlt
  · rw [hno j hlt hj] at g1
    cases g1
  · exact sub_bef (by omega) (by omega) g2
  · right
    refine (bef_iff (by omega) (by omega)).2 ⟨j, by rw [h2 j hlt]; exact k1, k2, fun q hq => by rw [h2 q (by omega)]; exact k3 q hq⟩
theorem next_none {n : Nat} {c : Nat → Nat} (C : Clos n c) (hn : n ≤ 8) {s : Nat} (hs : s < 2 ^ n) (h : nextN c s n = none) {t : Nat} (ht : t < 2 ^ n) (hc : c t = t) : bef s t = false := by
  have h256 := pow_le_256 hn
  cases hb : bef s t with
  | false => rfl
  | true =>
    obtain ⟨j, k1, k2, k3⟩ := (bef_iff (by omega) (by omega)).1 hb
    obtain ⟨g1, _⟩ := next_key C hs ht hc k1 k2 k3
    rw [nextN_none h j (testBit_lt ht k2)] at g1
    cases g1
def fromN (n : Nat) (c : Nat → Nat) (s : Nat) : List Nat := lecF fun x => decide (x < 2 ^ n ∧ c x = x) && decide (rv s ≤ rv x)
theorem from_first {n : Nat} {c : Nat → Nat} (C : Clos n c) (hn : n ≤ 8) : fromN n c (c 0) = keptN n fun x => decide (c x = x) := by
  have h256 := pow_le_256 hn
  have h0 := Nat.two_pow_pos n
  unfold keptN lecR fromN
  refine lecF_congr fun x hx => ?_
  rw [Bool.eq_iff_iff, Bool.and_eq_true, decide_eq_true_iff, decide_eq_true_iff, decide_eq_true_iff, List.mem_filter, List.mem_range, decide_eq_true_iff]
  refine ⟨fun h => h.1, fun h => ⟨h, ?_⟩⟩
  have := C.mono 0 x h0 h.1 (sub_zero x)
  rw [h.2] at this
  rcases sub_bef (by have := C.lt 0 h0; omega) hx this with e | e
  · rw [e]; exact Nat.le_refl _
  · unfold bef at e
    rw [decide_eq_true_iff] at e
    omega
theorem from_cons {n : Nat} {c : Nat → Nat} (_C : Clos n c) (hn : n ≤ 8) {s : Nat} (hs : s < 2 ^ n) (hc : c s = s) : fromN n c s = s :: lecF fun x => decide (x < 2 ^ n ∧ c x = x) && decide (rv s < rv x) := by
  have h256 := pow_le_256 hn
  symm
  refine lec_eq (List.Pairwise.cons (fun y hy => ?_) (lecF_sorted _)) fun x => ?_
  · have := (mem_lecF.1 hy).2
    rw [Bool.and_eq_true, decide_eq_true_iff, decide_eq_true_iff] at this
    exact this.2
  · rw [List.mem_cons, mem_lecF]
    simp only [Bool.and_eq_true, decide_eq_true_iff]
    constructor
    · rintro (rfl | ⟨h1, h2, h3⟩)
      · exact ⟨by omega, ⟨hs, hc⟩, Nat.le_refl _⟩
      · exact ⟨h1, h2, by omega⟩
    · rintro ⟨h1, h2, h3⟩
      by_cases e : x = s
      · exact Or.inl e
      · refine Or.inr ⟨h1, h2, ?_⟩
        have : rv s ≠ rv x := fun k => e (rv_inj h1 (by omega) k.symm)
        omega
theorem from_next {n : Nat} {c : Nat → Nat} (C : Clos n c) (hn : n ≤ 8) {s x : Nat} (hs : s < 2 ^ n) (h : nextN c s n = some x) : (lecF fun x => decide (x < 2 ^ n ∧ c x = x) && decide (rv s < rv x)) = fromN n c x := by
  obtain ⟨_, _, h3, h4⟩ := next_some C hn hs h
  unfold bef at h3
  rw [decide_eq_true_iff] at h3
  unfold fromN
  refine lecF_congr fun t ht => ?_
  rw [Bool.eq_iff_iff, Bool.and_eq_true, Bool.and_eq_true, decide_eq_true_iff, decide_eq_true_iff, decide_eq_true_iff]
  refine and_congr_right fun ⟨k1, k2⟩ => ⟨fun k3 => ?_, fun k3 => by omega⟩
  rcases h4 t k1 k2 (decide_eq_true k3) with e | e
  · rw [e]; exact Nat.le_refl _
  · unfold bef at e
    rw [decide_eq_true_iff] at e
    omega
theorem from_last {n : Nat} {c : Nat → Nat} (C : Clos n c) (hn : n ≤ 8) {s : Nat} (hs : s < 2 ^ n) (h : nextN c s n = none) : (lecF fun x => decide (x < 2 ^ n ∧ c x = x) && decide (rv s < rv x)) = [] := by
  refine List.eq_nil_iff_forall_not_mem.2 fun t ht => ?_
  have := (mem_lecF.1 ht).2
  rw [Bool.and_eq_true, decide_eq_true_iff, decide_eq_true_iff] at this
  have hb := next_none C hn hs h this.1.1 this.1.2
  unfold bef at hb
  rw [decide_eq_false_iff_not] at hb
  exact hb this.2
end Go.Proofs.YtafnamchckehmaaGreatDoor.Pu
namespace Go.Proofs.YtafnamchckehmaaGreatDoor.Pu
open Go.RowKit Go.Proofs.YtafnamchckehmaaGreatDoorW.PrintWords Go.Proofs.YtafnamchckehmaaGreatDoorW.PrintLast Go.Proofs.YtafnamchckehmaaGreatDoorW.PrintMore Go.Proofs.YtafnamchckehmaaGreatDoor.Pr
def closedQ (m : Nat) (R : List Nat) (s : Nat) : Bool := decide (cl m R s = s)
def conN (m : Nat) (R : List Nat) : List S102 := (keptN m (closedQ m R)).map fun s => ⟨((ext R s : Nat) : Int), ((s : Nat) : Int)⟩
end Go.Proofs.YtafnamchckehmaaGreatDoor.Pu
namespace Go.Proofs.YtafnamchckehmaaGreatDoor.Pu
open Go.RowKit Go.Proofs.YtafnamchckehmaaGreatDoorW.PrintWords Go.Proofs.YtafnamchckehmaaGreatDoorW.PrintLast Go.Proofs.YtafnamchckehmaaGreatDoorW.PrintMore Go.Proofs.YtafnamchckehmaaGreatDoor.Pr
abbrev IC := S102
def nxO : Option Nat → Int × Bool
  | some x => ((x : Int), true)
  | none => (0, false)
theorem next5_loop {m : Nat} (hm : m ≤ 6) {R : List Nat} (hR : R.length ≤ 8) (hrow : ∀ i, row R i < 256) {s : Nat} (hs : s < 2 ^ m) : ∀ j, j ≤ m → Ev (fun k => spec_l5Next.l0 k (s : Int) ((j : Int) - 1) (m : Int) (cast R)) (nxO (nextN (cl m R) s j)) := by
  have h256 := pow_256 (show m ≤ 8 by omega)
  intro j
  induction j with
  | zero =>
    intro _
    refine Ev.step (f := fun _ => some (0, false)) (fun k => ?_) (Ev.now _)
    simp only [spec_l5Next.l0]
    rw [if_neg (by omega)]
  | succ j ih =>
    intro hj
    have hih := ih (by omega)
    have e1 : ((j + 1 : Nat) : Int) - 1 = (j : Int) := by omega
    have ew : wrap64 ((j : Int) - 1) = (j : Int) - 1 := by unfold wrap64; omega
    rw [e1]
    have hfull := full_256 (show j ≤ 8 by omega)
    have ha : s &&& full j < 256 := Nat.lt_of_le_of_lt Nat.and_le_left (by omega)
    have harg : (s &&& full j) ||| 2 ^ j < 2 ^ m := arg_lt hs (by omega)
    have hp : plus (cl m R) s j < 256 := Nat.lt_of_lt_of_le (plus_lt (clos_cl m R) hs (by omega)) h256
    cases hb : s.testBit j with
    | true =>
      have : nextN (cl m R) s (j + 1) = nextN (cl m R) s j := by
        rw [nextN]
        rw [if_neg]
        unfold hitsN
        rw [hb]
        simp
      rw [this]
      refine Ev.step (fun k => ?_) hih
      simp only [spec_l5Next.l0]
      rw [if_pos (by omega), l2Has_val s j (by omega) (by omega), hb, Option.bind_some, if_pos rfl, ew]
    | false =>
      refine Ev.step (f := fun k => (spec_l4Closure.f k (m : Int) (cast R) (((s &&& full j) ||| 2 ^ j : Nat) : Int)).bind fun t => if Go.bits .and .i64 t ((full j : Nat) : Int) = ((s &&& full j : Nat) : Int) then some (t, true) else spec_l5Next.l0 k (s : Int) ((j : Int) - 1) (m : Int) (cast R)) (fun k => ?_) ?_
      · simp only [spec_l5Next.l0]
        rw [if_pos (by omega), l2Has_val s j (by omega) (by omega), hb, Option.bind_some, if_neg (by decide), fullS_val, fullN (by omega), Option.bind_some, wrapU_small (j : Int) (by omega) (by omega), if_pos (by omega), ew, and_nat (by omega) (by omega), or_bit ha (by omega)]
        simp only [Option.bind_some]
      · refine Ev.bind (clS4_val m (by omega) R hR hrow _ (by omega)) ?_
        rw [show cl m R ((s &&& full j) ||| 2 ^ j) = plus (cl m R) s j from rfl, and_nat (by omega) (by omega)]
        rw [nextN]
        by_cases e : plus (cl m R) s j &&& full j = s &&& full j
        · have : hitsN (cl m R) s j = true := by
            unfold hitsN
            rw [hb, e]
            simp
          rw [if_pos this]
          exact Ev.congr (fun k => by rw [if_pos (by rw [e])]; rfl) (Ev.now _)
        · have : ¬ hitsN (cl m R) s j = true := by
            unfold hitsN
            rw [Bool.and_eq_true, beq_iff_eq]
            exact fun h => e h.2
          rw [if_neg this]
          exact Ev.congr (fun k => by rw [if_neg (by omega)]) hih
theorem next5_val {m : Nat} (hm : m ≤ 6) {R : List Nat} (hR : R.length ≤ 8) (hrow : ∀ i, row R i < 256) {s : Nat} (hs : s < 2 ^ m) : Ev (fun k => spec_l5Next.f k (m : Int) (cast R) (s : Int)) (nxO (nextN (cl m R) s m)) := by
  unfold spec_l5Next.f
  rw [show wrap64 ((m : Int) - 1) = (m : Int) - 1 from by unfold wrap64; omega]
  exact next5_loop hm hR hrow hs m (Nat.le_refl _)
def mkC (R : List Nat) (s : Nat) : IC := ⟨((ext R s : Nat) : Int), ((s : Nat) : Int)⟩
theorem con5_val {m : Nat} (hm : m ≤ 6) {R : List Nat} (hR : R.length ≤ 8) (hrow : ∀ i, row R i < 256) {s : Nat} (hs : s < 2 ^ m) (hc : cl m R s = s) : Ev (fun k => spec_l5Concept.f k (m : Int) (cast R) (s : Int)) (((ext R s : Nat) : Int), ((s : Nat) : Int)) := by
  have h256 := pow_256 (show m ≤ 8 by omega)
  unfold spec_l5Concept.f
  refine Ev.bind (extS_val (m : Int) R hR hrow s (by omega)) ?_
  refine Ev.bind (intS_val m (by omega) R hR hrow (ext R s) (lt_256 hR (ext_lt R s))) ?_
  rw [show int m R (ext R s) = s from hc]
  exact Ev.now _
theorem cons_loop {m : Nat} (hm : m ≤ 6) {R : List Nat} (hR : R.length ≤ 8) (hrow : ∀ i, row R i < 256) : ∀ (d s : Nat) (out : List Nat), s < 2 ^ m → cl m R s = s → 256 - rv s ≤ d → out.length + d ≤ 512 →
    Ev (fun k => spec_Concepts.l0 k (out.map (mkC R)) (s : Int) (m : Int) (cast R)) ((out ++ fromN m (cl m R) s).map (mkC R)) := by
  have h256 := pow_256 (show m ≤ 8 by omega)
  intro d
  induction d with
  | zero =>
    intro s out hs _ hd _
    have := rv_lt (show s < 256 by omega)
    omega
  | succ d ih =>
    intro s out hs hc hd hl
    have C := clos_cl m R
    have hlen : (out.map (mkC R)).length ≤ 1048576 := by rw [List.length_map]; omega
    have hsmall : (out.map (mkC R)).length < 8796093022208 := by
      have : ∀ n : Nat, n ≤ 1048576 → n < 8796093022208 := fun n _ => by omega
      exact this _ hlen
    have hsnoc : out.map (mkC R) ++ [(⟨((ext R s : Nat) : Int), ((s : Nat) : Int)⟩ : IC)] = (out ++ [s]).map (mkC R) := by rw [List.map_append]; rfl
    refine Ev.step (f := fun k => (spec_l5Concept.f k (m : Int) (cast R) (s : Int)).bind fun bt => ((spec_l5Next.f k (m : Int) (cast R) (s : Int)).bind fun bu => (if bu.2 = true then (spec_Concepts.l0 k (out.map (mkC R) ++ [(⟨bt.1, bt.2⟩ : IC)]) bu.1 (m : Int) (cast R)) else (some (out.map (mkC R) ++ [(⟨bt.1, bt.2⟩ : IC)]))))) (fun k => ?_) ?_
    · simp only [spec_Concepts.l0, Option.bind_some]
      congr 1
      funext bt
      rw [if_pos hsmall]
    · refine Ev.bind (con5_val hm hR hrow hs hc) ?_
      dsimp only
      refine Ev.bind (next5_val hm hR hrow hs) ?_
      rw [hsnoc, from_cons C (by omega) hs hc]
      cases hn : nextN (cl m R) s m with
      | none =>
        rw [from_last C (by omega) hs hn]
        exact Ev.congr (fun k => by unfold nxO; rw [if_neg (by decide)]) (Ev.now _)
      | some x =>
        obtain ⟨hx, hxc, hb, _⟩ := next_some C (by omega) hs hn
        unfold bef at hb
        rw [decide_eq_true_iff] at hb
        have hxv := rv_lt (show x < 256 by omega)
        rw [from_next C (by omega) hs hn]
        have := ih x (out ++ [s]) hx hxc (by omega) (by rw [List.length_append, List.length_singleton]; omega)
        rw [List.append_assoc] at this
        exact Ev.congr (fun k => by unfold nxO; dsimp only; rw [if_pos rfl]) this
def conV (n : Int) (l : List Int) : List IC := if ctxB n l = true then conN n.toNat (l.map Int.toNat) else []
theorem conV_nat {m : Nat} {R : List Nat} (hc : ctxB (m : Int) (cast R) = true) : conV (m : Int) (cast R) = conN m R := by
  unfold conV
  rw [if_pos hc, Int.toNat_natCast, uncast]
theorem conN_len (m : Nat) (R : List Nat) : (conN m R).length ≤ 256 := by
  unfold conN
  rw [List.length_map]
  exact keptN_le
theorem conV_len (n : Int) (l : List Int) : (conV n l).length ≤ 256 := by
  unfold conV
  split
  · exact conN_len _ _
  · simp
theorem conS_val (n : Int) (l : List Int) (hl : l.length ≤ 1048576) : Ev (fun k => spec_Concepts.f k n l) (conV n l) := by
  unfold spec_Concepts.f
  simp only [Option.bind_some]
  refine Ev.bind (ctxS_val n l (by omega)) ?_
  cases hc : ctxB n l with
  | false =>
    unfold conV
    rw [hc, if_neg (by decide)]
    exact Ev.congr (fun k => by rw [if_neg (by decide)]) (Ev.now _)
  | true =>
    have hc2 := hc
    obtain ⟨m, R, rfl, hm, rfl, hR, hb⟩ := ctxB_nat hc2
    have hrow := fun i => lt_256 (show m ≤ 8 by omega) (row_lt hb i)
    have h0 := Nat.two_pow_pos m
    have h256 := pow_256 (show m ≤ 8 by omega)
    rw [conV_nat hc]
    refine Ev.congr (fun k => by rw [if_pos rfl]) ?_
    refine Ev.bind (clS4_val m (by omega) R hR hrow 0 (by omega)) ?_
    have := cons_loop hm hR hrow 256 (cl m R 0) [] (cl_lt m R 0) (cl_idem h0) (by omega) (by decide)
    rw [List.nil_append, from_first (clos_cl m R) (by omega)] at this
    exact this
end Go.Proofs.YtafnamchckehmaaGreatDoor.Pu
namespace Go.Proofs.YtafnamchckehmaaGreatDoor.Pu
open Go.RowKit Go.Proofs.YtafnamchckehmaaGreatDoorW.PrintWords Go.Proofs.YtafnamchckehmaaGreatDoorW.PrintLast Go.Proofs.YtafnamchckehmaaGreatDoorW.PrintMore Go.Proofs.YtafnamchckehmaaGreatDoor.Pr
theorem small16 : ∀ n : Nat, n ≤ 1048576 → n < 17592186044416 := fun n _ => by omega
theorem small16s : ∀ n m : Nat, n ≤ 1048576 → m ≤ 1048576 → n + m < 17592186044416 := fun n m _ _ => by omega
theorem ite_at {α : Type} {c : Prop} [Decidable c] {x y r : α} (h : c) (hx : x = r) : (if c then x else y) = r := by rw [if_pos h]; exact hx
theorem bind_at {α β : Type} {a : α} {f : α → Option β} {r : Option β} (h : f a = r) : (some a).bind f = r := h
theorem rdC (l : List IC) (i : Nat) : rd_T102 l (i : Int) = l.getD i z102 := by unfold rd_T102; rw [Int.toNat_natCast]
theorem list2_loop (b : List Int) (hb : b.length ≤ 1048576) (N : Nat) (hN : N ≤ 1000) : ∀ (d j : Nat) (i h : Int) (l : List Int), j + d = N → 0 ≤ i → l.length ≤ j → ∃ v : List Int × Int × Int, Ev (fun k => spec_l2List.l0 k l (N : Int) (j : Int) b i h) v ∧ v.1.length ≤ N + 1 ∧ 0 ≤ v.2.1 := by
  intro d
  induction d with
  | zero =>
    intro j i h l hj h0 hl
    obtain ⟨o, i2, h2, eo, k2⟩ := once_ex b hb i h h0 10
    cases o with
    | true =>
      obtain ⟨x, i3, h3, e3, k3⟩ := bent2_ex b hb i2 h2 k2
      refine ⟨(l ++ [x], i3, h3), Ev.step (f := fun _ => some (l ++ [x], i3, h3)) (fun k => ?_) (Ev.now _), by dsimp only; rw [List.length_append, List.length_singleton]; omega, k3⟩
      simp only [spec_l2List.l0]
      rw [if_neg (by omega), eo, Option.bind_some]
      dsimp only
      rw [if_pos rfl, e3, Option.bind_some, if_pos (small16 _ (by omega))]
    | false =>
      refine ⟨(l, i2, h2), Ev.step (f := fun _ => some (l, i2, h2)) (fun k => ?_) (Ev.now _), by dsimp only; omega, k2⟩
      simp only [spec_l2List.l0]
      rw [if_neg (by omega), eo, Option.bind_some]
      dsimp only
      rw [if_neg (by decide)]
  | succ d ih =>
    intro j i h l hj h0 hl
    obtain ⟨x, i1, h1, e1, _, _, k1⟩ := below_ex b hb i h h0 16
    obtain ⟨v, hv, hv2⟩ := ih (j + 1) i1 h1 (l ++ [x]) (by omega) k1 (by rw [List.length_append, List.length_singleton]; omega)
    refine ⟨v, Ev.step (fun k => ?_) hv, hv2⟩
    simp only [spec_l2List.l0]
    rw [if_pos (by omega), e1, Option.bind_some]
    dsimp only
    rw [if_pos (small16 _ (by omega)), show wrap64 ((j : Int) + 1) = ((j + 1 : Nat) : Int) from by unfold wrap64; omega]
theorem list2_ex (b : List Int) (hb : b.length ≤ 1048576) (i h : Int) (h0 : 0 ≤ i) : ∃ v : List Int × Int × Int, Ev (fun k => spec_l2List.f k b i h) v ∧ v.1.length ≤ 6 ∧ 0 ≤ v.2.1 := by
  obtain ⟨x, i1, h1, e, x0, x1, k⟩ := below_ex b hb i h h0 6
  have x1 := x1 (by omega)
  obtain ⟨q, rfl⟩ : ∃ q : Nat, x = (q : Int) := ⟨x.toNat, by omega⟩
  obtain ⟨v, hv, e1, e2⟩ := list2_loop b hb q (by omega) q 0 i1 h1 [] (by omega) k (Nat.le_refl _)
  refine ⟨v, ?_, by omega, e2⟩
  unfold spec_l2List.f
  rw [e]
  exact hv
theorem fam13_end (b : List Int) (hb : b.length ≤ 1048576) (i h n : Int) (h0 : 0 ≤ i) (l0 : List Int) (C : List IC) (l : List Int) (hl : l.length ≤ 1000) (j : Nat) (hj : C.length ≤ j) : ∃ v : Int × List Int, Ev (fun k => spec_l13Family.l0 k l C (j : Int) b i h n l0) v ∧ v.2.length ≤ 2000 := by
  obtain ⟨y, i3, h3, e3, y0, y1, k3⟩ := below_ex b hb i h h0 6
  have go : ∀ w, Ev (fun k => if y = 0 then (if (l.length : Int) > 1 then ((spec_l1Below.f b i3 h3 (l.length : Int)).bind fun bt514 => ((some (([] : List Int) : List Int)).bind fun y517 => (if 0 ≤ bt514.1 then (if bt514.1 ≤ (l.length : Int) then ((some (l.take (bt514.1 : Int).toNat : List Int)).bind fun y520 => (if y517.length + y520.length < 17592186044416 then ((some (y517 ++ y520 : List Int)).bind fun y524 => (if 0 ≤ (wrap64 (bt514.1 + 1)) then (if (wrap64 (bt514.1 + 1)) ≤ (l.length : Int) then ((some (l.drop ((wrap64 (bt514.1 + 1)) : Int).toNat : List Int)).bind fun y527 => (if y524.length + y527.length < 17592186044416 then (some (n, (y524 ++ y527))) else (none))) else (none)) else (none))) else (none))) else (none)) else (none)))) else (some (n, l))) else (if y = 1 then ((spec_l2List.f k b i3 h3).bind fun bt534 => (some (n, bt534.1))) else (some (n, l)))) w → Ev (fun k => spec_l13Family.l0 k l C (j : Int) b i h n l0) w := by
    intro w hw
    refine Ev.step (fun k => ?_) hw
    simp only [spec_l13Family.l0]
    rw [if_neg (by omega), e3, Option.bind_some]
  by_cases c0 : y = 0
  · by_cases c1 : (l.length : Int) > 1
    · obtain ⟨x, i4, h4, e4, x0, x1, k4⟩ := below_ex b hb i3 h3 k3 (l.length : Int)
      have x1 := x1 (by omega)
      obtain ⟨q, rfl⟩ : ∃ q : Nat, x = (q : Int) := ⟨x.toNat, by omega⟩
      have hw : wrap64 ((q : Int) + 1) = ((q + 1 : Nat) : Int) := by unfold wrap64; omega
      have ht : (l.take q).length ≤ 1048576 := by rw [List.length_take]; omega
      have hd : (l.drop (q + 1)).length ≤ 1048576 := by rw [List.length_drop]; omega
      refine ⟨(n, ([] ++ l.take q) ++ l.drop (q + 1)), go _ (Ev.congr (fun k => ?_) (Ev.now _)), ?_⟩
      · rw [if_pos c0, if_pos c1, e4]
        refine bind_at (bind_at (ite_at (by dsimp only; omega) (ite_at (by dsimp only; omega) (bind_at (ite_at (small16s _ _ (Nat.zero_le _) (by dsimp only; rw [Int.toNat_natCast]; exact ht)) (bind_at (ite_at (by dsimp only; omega) (ite_at (by dsimp only; omega) (bind_at (ite_at (small16s _ _ (by dsimp only; rw [List.nil_append, Int.toNat_natCast]; exact ht) (by dsimp only; rw [hw, Int.toNat_natCast]; exact hd)) ?_))))))))))
        dsimp only
        rw [hw, Int.toNat_natCast, Int.toNat_natCast]
      · dsimp only
        rw [List.length_append, List.length_append, List.length_nil, List.length_take, List.length_drop]
        omega
    · exact ⟨(n, l), go _ (Ev.congr (fun k => by rw [if_pos c0, if_neg c1]) (Ev.now _)), by dsimp only; omega⟩
  · by_cases c1 : y = 1
    · obtain ⟨⟨q, i4, h4⟩, e4, hq, _⟩ := list2_ex b hb i3 h3 k3
      dsimp only at hq
      have e5 : Ev (fun k => (spec_l2List.f k b i3 h3).bind fun bt534 => (some (n, bt534.1))) (n, q) := Ev.bind e4 (Ev.now _)
      exact ⟨(n, q), go _ (Ev.congr (fun k => by rw [if_neg c0, if_pos c1]) e5), by dsimp only; omega⟩
    · exact ⟨(n, l), go _ (Ev.congr (fun k => by rw [if_neg c0, if_neg c1]) (Ev.now _)), by dsimp only; omega⟩
theorem fam13_loop (b : List Int) (hb : b.length ≤ 1048576) (i h n : Int) (h0 : 0 ≤ i) (l0 : List Int) (C : List IC) (hC : C.length ≤ 256) : ∀ (d j : Nat) (l : List Int), j + d = C.length → l.length ≤ j → ∃ v : Int × List Int, Ev (fun k => spec_l13Family.l0 k l C (j : Int) b i h n l0) v ∧ v.2.length ≤ 2000 := by
  intro d
  induction d with
  | zero =>
    intro j l hj hl
    exact fam13_end b hb i h n h0 l0 C l (by omega) j (by omega)
  | succ d ih =>
    intro j l hj hl
    obtain ⟨v, hv, hv2⟩ := ih (j + 1) (l ++ [(C.getD j z102).f1]) (by omega) (by rw [List.length_append, List.length_singleton]; omega)
    refine ⟨v, Ev.step (fun k => ?_) hv, hv2⟩
    simp only [spec_l13Family.l0]
    rw [if_pos (by omega), if_pos (by omega), if_pos (small16 _ (by omega)), rdC, show wrap64 ((j : Int) + 1) = ((j + 1 : Nat) : Int) from by unfold wrap64; omega]
theorem fam13_ex (b : List Int) (hb : b.length ≤ 1048576) : ∃ v : Int × List Int, Ev (fun k => spec_l13Family.f k b) v ∧ v.2.length ≤ 2000 := by
  obtain ⟨h1, e1⟩ := new_ex b hb
  obtain ⟨⟨n, l, i2, h2⟩, e2, _, hl, k2⟩ := draw3_ex b hb 0 h1 (by decide)
  dsimp only at hl k2
  obtain ⟨v, hv, hv2⟩ := fam13_loop b hb i2 h2 n k2 l (conV n l) (conV_len n l) _ 0 [] (Nat.zero_add _) (Nat.le_refl _)
  refine ⟨v, ?_, hv2⟩
  unfold spec_l13Family.f
  refine Ev.bind e1 (Ev.bind e2 ?_)
  dsimp only
  exact Ev.bind (conS_val n l (by omega)) hv
theorem intents_loop (C : List IC) (hC : C.length ≤ 256) : ∀ (rest : List IC) (i : Nat), C.drop i = rest → Ev (fun k => laws_intents.l0 k C ((C.take i).map (·.f1)) (i : Int)) (C.map (·.f1)) := by
  intro rest
  induction rest with
  | nil =>
    intro i h
    have := drop_nil h
    refine Ev.step (f := fun _ => some (C.map (·.f1))) (fun k => ?_) (Ev.now _)
    simp only [laws_intents.l0]
    rw [if_neg (by omega), List.take_of_length_le this]
  | cons x rest ih =>
    intro i h
    obtain ⟨hi, hx, hd⟩ := drop_cons (d := z102) h
    have ht : C.take (i + 1) = C.take i ++ [x] := by
      rw [List.take_succ_eq_append_getElem hi]
      congr 2
      rw [List.getD_eq_getElem?_getD, List.getElem?_eq_getElem hi] at hx
      exact hx
    have := ih (i + 1) hd
    rw [ht, List.map_append] at this
    refine Ev.step (fun k => ?_) this
    simp only [laws_intents.l0]
    rw [if_pos (by omega), if_pos (by omega), if_pos (small16 _ (by rw [List.length_map, List.length_take]; omega)), rdC, hx, wrap_succ hi (by omega)]
    rfl
theorem intents_val (C : List IC) (hC : C.length ≤ 256) : Ev (fun k => laws_intents.f k C) (C.map (·.f1)) := intents_loop C hC C 0 rfl
end Go.Proofs.YtafnamchckehmaaGreatDoor.Pu
namespace Go.Proofs.YtafnamchckehmaaGreatDoor.Pu
open Go.RowKit Go.Proofs.YtafnamchckehmaaGreatDoorW.PrintWords Go.Proofs.YtafnamchckehmaaGreatDoorW.PrintLast Go.Proofs.YtafnamchckehmaaGreatDoorW.PrintMore Go.Proofs.YtafnamchckehmaaGreatDoor.Pr
theorem row_mem {L : List Nat} {i : Nat} (h : i < L.length) : row L i ∈ L := by
  unfold row
  rw [List.getD_eq_getElem?_getD, List.getElem?_eq_getElem h]
  exact List.getElem_mem h
theorem mem_row {L : List Nat} {x : Nat} (h : x ∈ L) : ∃ i, i < L.length ∧ row L i = x := by
  obtain ⟨i, hi, e⟩ := List.getElem_of_mem h
  exact ⟨i, hi, by unfold row; rw [List.getD_eq_getElem?_getD, List.getElem?_eq_getElem hi]; exact e⟩
structure Fam (m : Nat) (L : List Nat) : Prop where
  lt : ∀ x ∈ L, x < 2 ^ m
  top : full m ∈ L
  meet : ∀ x ∈ L, ∀ y ∈ L, x &&& y ∈ L
theorem bey_fold (L : List Nat) (s j : Nat) : ∀ (d i f : Nat), i + d = L.length → ((foldIdx (byStep L s) i L.length f).testBit j = true ↔ f.testBit j = true ∧ ∀ g, i ≤ g → g < L.length → row L g ≠ s → sub s (row L g) = true → (row L g).testBit j = true) := by
  intro d
  induction d with
  | zero =>
    intro i f h
    rw [foldIdx_end _ (by omega)]
    exact ⟨fun k => ⟨k, fun g h1 h2 => by omega⟩, fun k => k.1⟩
  | succ d ih =>
    intro i f h
    rw [foldIdx_step _ (by omega), ih (i + 1) _ (by omega)]
    unfold byStep
    by_cases hh : row L i ≠ s ∧ sub s (row L i) = true
    · rw [if_pos hh, Nat.testBit_and, Bool.and_eq_true]
      constructor
      · rintro ⟨⟨h1, h2⟩, h3⟩
        refine ⟨h1, fun g k1 k2 k3 k4 => ?_⟩
        by_cases e : g = i
        · subst e; exact h2
        · exact h3 g (by omega) k2 k3 k4
      · rintro ⟨h1, h2⟩
        exact ⟨⟨h1, h2 i (Nat.le_refl _) (by omega) hh.1 hh.2⟩, fun g k1 k2 => h2 g (by omega) k2⟩
    · rw [if_neg hh]
      refine and_congr_right fun _ => ⟨fun h3 g k1 k2 k3 k4 => ?_, fun h3 g k1 k2 => h3 g (by omega) k2⟩
      by_cases e : g = i
      · subst e; exact absurd ⟨k3, k4⟩ hh
      · exact h3 g (by omega) k2 k3 k4
theorem bey_iff {L : List Nat} {s f j : Nat} : (bey L s f).testBit j = true ↔ f.testBit j = true ∧ ∀ x ∈ L, x ≠ s → sub s x = true → x.testBit j = true := by
  unfold bey
  rw [bey_fold L s j L.length 0 f (by omega)]
  refine and_congr_right fun _ => ⟨fun h x hx k1 k2 => ?_, fun h g _ hg => h _ (row_mem hg)⟩
  obtain ⟨i, hi, rfl⟩ := mem_row hx
  exact h i (Nat.zero_le _) hi k1 k2
theorem irFold (L : List Nat) (m : Nat) : ∀ (d i : Nat) (a : List Nat), i + d = L.length → foldIdx (irStep L m) i L.length a = a ++ (L.drop i).filter fun s => decide (bey L s (full m) ≠ s) := by
  intro d
  induction d with
  | zero =>
    intro i a h
    rw [foldIdx_end _ (by omega), List.drop_eq_nil_of_le (by omega)]
    simp
  | succ d ih =>
    intro i a h
    have hi : i < L.length := by omega
    have er : row L i = L[i] := by unfold row; rw [List.getD_eq_getElem?_getD, List.getElem?_eq_getElem hi]; rfl
    rw [foldIdx_step _ hi, ih (i + 1) _ (by omega), List.drop_eq_getElem_cons hi, List.filter_cons]
    unfold irStep
    rw [er]
    by_cases e : bey L L[i] (full m) = L[i]
    · rw [if_pos e, decide_eq_false (fun k => k e), if_neg (by decide)]
    · rw [if_neg e, decide_eq_true e, if_pos rfl, List.append_assoc]
      rfl
theorem mem_irV {L : List Nat} {m x : Nat} : x ∈ irV L m ↔ x ∈ L ∧ bey L x (full m) ≠ x := by
  unfold irV
  rw [irFold L m L.length 0 [] (by omega), List.nil_append, List.drop_zero, List.mem_filter, decide_eq_true_iff]
theorem fam_closed {m : Nat} {L : List Nat} (h : ∀ x ∈ L, x < 2 ^ m) : ∀ (k x : Nat), 2 ^ m - x < k → x ∈ L → cl m (irV L m) x = x := by
  intro k
  induction k with
  | zero => intro x hk; omega
  | succ k ih =>
    intro x hk hx
    have hxl := h x hx
    by_cases e : bey L x (full m) = x
    · refine sub_antisymm (sub_iff.2 fun j hj => ?_) (sub_cl hxl)
      rw [← e, bey_iff]
      refine ⟨by rw [testBit_full, decide_eq_true_iff]; exact (testBit_cl.1 hj).1, fun y hy hne hsub => ?_⟩
      have hlt : x < y := by have := sub_le hsub; omega
      have hyl := h y hy
      have hy2 := ih y (by omega) hy
      rw [← hy2]
      exact sub_iff.1 (cl_mono hsub) j hj
    · obtain ⟨i, hi, hr⟩ := mem_row (mem_irV.2 ⟨hx, e⟩)
      have := cl_sub_row (n := m) hi (show sub x (row (irV L m) i) = true by rw [hr]; exact sub_refl x)
      rw [hr] at this
      exact sub_antisymm this (sub_cl hxl)
theorem fam_meet {m : Nat} {L : List Nat} (F : Fam m L) : ∀ A : List Nat, (∀ x ∈ A, x ∈ L) → ∃ z ∈ L, ∀ j, z.testBit j = true ↔ j < m ∧ ∀ x ∈ A, x.testBit j = true := by
  intro A
  induction A with
  | nil => intro _; exact ⟨full m, F.top, fun j => by rw [testBit_full, decide_eq_true_iff]; simp⟩
  | cons a A ih =>
    intro h
    obtain ⟨z, hz, hb⟩ := ih fun x hx => h x (List.mem_cons_of_mem _ hx)
    refine ⟨a &&& z, F.meet a (h a List.mem_cons_self) z hz, fun j => ?_⟩
    rw [Nat.testBit_and, Bool.and_eq_true, hb]
    constructor
    · rintro ⟨h1, h2, h3⟩
      refine ⟨h2, fun x hx => ?_⟩
      rcases List.mem_cons.1 hx with rfl | hx
      · exact h1
      · exact h3 x hx
    · rintro ⟨h1, h2⟩
      exact ⟨h2 a List.mem_cons_self, h1, fun x hx => h2 x (List.mem_cons_of_mem _ hx)⟩
theorem closed_fam {m : Nat} {L : List Nat} (F : Fam m L) {s : Nat} (hc : cl m (irV L m) s = s) : s ∈ L := by
  obtain ⟨z, hz, hb⟩ := fam_meet F ((irV L m).filter fun x => sub s x) fun x hx => (mem_irV.1 (List.mem_filter.1 hx).1).1
  have : s = z := by
    refine Nat.eq_of_testBit_eq fun j => ?_
    rw [Bool.eq_iff_iff, hb]
    conv => lhs; rw [← hc]
    rw [testBit_cl]
    refine and_congr_right fun _ => ⟨fun h x hx => ?_, fun h g hg hsub => ?_⟩
    · obtain ⟨h1, h2⟩ := List.mem_filter.1 hx
      obtain ⟨i, hi, rfl⟩ := mem_row h1
      exact h i hi h2
    · exact h _ (List.mem_filter.2 ⟨row_mem hg, hsub⟩)
  rw [this]
  exact hz
theorem fam_iff {m : Nat} {L : List Nat} (F : Fam m L) {s : Nat} (_hs : s < 2 ^ m) : cl m (irV L m) s = s ↔ s ∈ L :=
  ⟨closed_fam F, fam_closed F.lt (2 ^ m - s + 1) s (by omega)⟩
theorem fam_list {m : Nat} (hm : m ≤ 8) {L : List Nat} (F : Fam m L) (hs : lecS L) : (keptN m fun s => decide (cl m (irV L m) s = s)) = L := by
  have h256 := pow_le_256 hm
  rw [lec_unique hs fun x hx => by have := F.lt x hx; omega]
  unfold keptN lecR
  refine lecF_congr fun s _ => ?_
  rw [Bool.eq_iff_iff, decide_eq_true_iff, decide_eq_true_iff, List.mem_filter, List.mem_range, decide_eq_true_iff, ← lec_unique hs fun x hx => by have := F.lt x hx; omega]
  constructor
  · rintro ⟨h1, h2⟩; exact (fam_iff F h1).1 h2
  · intro h; exact ⟨F.lt s h, (fam_iff F (F.lt s h)).2 h⟩
theorem clos_eq {m : Nat} {c d : Nat → Nat} (C : Clos m c) (D : Clos m d) (h : ∀ s, s < 2 ^ m → (c s = s ↔ d s = s)) : ∀ s, s < 2 ^ m → c s = d s := by
  intro s hs
  refine sub_antisymm ?_ ?_
  · have := C.mono s (d s) hs (D.lt s hs) (D.ext s hs)
    rwa [(h (d s) (D.lt s hs)).2 (D.idem s hs)] at this
  · have := D.mono s (c s) hs (C.lt s hs) (C.ext s hs)
    rwa [(h (c s) (C.lt s hs)).1 (C.idem s hs)] at this
theorem kept_sorted (m : Nat) (q : Nat → Bool) : lecS (keptN m q) := by
  unfold keptN lecR
  exact lecF_sorted _
theorem clos_fam {m : Nat} (hm : m ≤ 8) {c : Nat → Nat} (C : Clos m c) : Fam m (keptN m fun s => decide (c s = s)) where
  lt := fun x hx => ((mem_keptN hm).1 hx).1
  top := (mem_keptN hm).2 ⟨full_lt m, decide_eq_true (sub_antisymm (sub_full (C.lt _ (full_lt m))) (C.ext _ (full_lt m)))⟩
  meet := fun x hx y hy => by
    obtain ⟨h1, h2⟩ := (mem_keptN hm).1 hx
    obtain ⟨k1, k2⟩ := (mem_keptN hm).1 hy
    rw [decide_eq_true_iff] at h2 k2
    have hl : x &&& y < 2 ^ m := Nat.lt_of_le_of_lt Nat.and_le_left h1
    refine (mem_keptN hm).2 ⟨hl, decide_eq_true (sub_antisymm (sub_and ?_ ?_) (C.ext _ hl))⟩
    · have := C.mono _ x hl h1 (and_sub_left x y)
      rwa [h2] at this
    · have := C.mono _ y hl k1 (and_sub_right x y)
      rwa [k2] at this
theorem famV_fam {m : Nat} (hm : m ≤ 6) {L : List Nat} (h : famV (m : Int) (cast L) = true) : Fam m L ∧ lecS L := by
  obtain ⟨m', L', e, _, e2, hlt⟩ := famV_nat h
  have e := Int.natCast_inj.1 e
  subst e
  have e3 : L = L' := by rw [← uncast L, e2, uncast]
  subst e3
  unfold famV at h
  rw [Bool.and_eq_true, Bool.and_eq_true, Bool.and_eq_true, decide_eq_true_iff, decide_eq_true_iff, fullN (by omega)] at h
  obtain ⟨_, htop, h1, h2⟩ := h
  have h256 := pow_le_256 (show m ≤ 8 by omega)
  have hstep : ∀ i, i + 1 < L.length → rv (row L i) < rv (row L (i + 1)) := by
    intro i hi
    have := (fam1_set (List.all_eq_true.1 h1 (i + 1) (by rw [List.mem_range', cast_length]; exact ⟨i + 1, hi, by omega⟩))).2 (by omega)
    rw [show i + 1 - 1 = i from rfl, ← rd_nat, ← rd_nat, rd_row, rd_row, befVN (by have := row_lt hlt i; omega) (by have := row_lt hlt (i + 1); omega)] at this
    unfold bef at this
    exact of_decide_eq_true this
  have hall : ∀ d i, i + d + 1 < L.length → rv (row L i) < rv (row L (i + d + 1)) := by
    intro d
    induction d with
    | zero => intro i hi; exact hstep i hi
    | succ d ih =>
      intro i hi
      have k1 := ih i (by omega)
      have k2 := hstep (i + d + 1) (by omega)
      rw [show i + (d + 1) + 1 = i + d + 1 + 1 from by omega]
      omega
  have hget : ∀ i (hi : i < L.length), row L i = L[i] := fun i hi => by unfold row; rw [List.getD_eq_getElem?_getD, List.getElem?_eq_getElem hi]; rfl
  refine ⟨⟨hlt, ?_, ?_⟩, ?_⟩
  · exact memCast.1 htop
  · have hpair : ∀ i j, j < i → i < L.length → row L i &&& row L j ∈ L := by
      intro i j hj hi
      have h3 := List.all_eq_true.1 h2 i (by rw [List.mem_range', cast_length]; exact ⟨i, hi, by omega⟩)
      have h4 := List.all_eq_true.1 h3 j (by rw [List.mem_range']; exact ⟨j, hj, by omega⟩)
      unfold fam2 at h4
      rw [decide_eq_true_iff, ← rd_nat, ← rd_nat, rd_row, rd_row, and_nat (by have := row_lt hlt i; omega) (by have := row_lt hlt j; omega)] at h4
      exact memCast.1 h4
    intro x hx y hy
    obtain ⟨i, hi, rfl⟩ := mem_row hx
    obtain ⟨j, hj, rfl⟩ := mem_row hy
    rcases Nat.lt_trichotomy i j with k | rfl | k
    · rw [Nat.and_comm]; exact hpair j i k hj
    · rw [Nat.and_self]; exact row_mem hi
    · exact hpair i j k hi
  · refine List.pairwise_iff_getElem.2 fun i j hi hj hij => ?_
    rw [← hget i hi, ← hget j hj]
    have := hall (j - i - 1) i (by omega)
    rwa [show i + (j - i - 1) + 1 = j from by omega] at this
theorem fam_famV {m : Nat} (hm : m ≤ 6) {L : List Nat} (F : Fam m L) (hs : lecS L) : famV (m : Int) (cast L) = true := by
  have h256 := pow_le_256 (show m ≤ 8 by omega)
  have hget : ∀ i (hi : i < L.length), row L i = L[i] := fun i hi => by unfold row; rw [List.getD_eq_getElem?_getD, List.getElem?_eq_getElem hi]; rfl
  unfold famV
  rw [Bool.and_eq_true, Bool.and_eq_true, Bool.and_eq_true, decide_eq_true_iff, decide_eq_true_iff, fullN (by omega)]
  refine ⟨by omega, memCast.2 F.top, List.all_eq_true.2 fun i hi => ?_, List.all_eq_true.2 fun i hi => List.all_eq_true.2 fun j hj => ?_⟩
  · rw [List.mem_range', cast_length] at hi
    obtain ⟨i', hi', e⟩ := hi
    have e : i = i' := by omega
    subst e
    unfold fam1
    rw [← rd_nat, rd_row, isSetB_mk (by omega) (row_lt F.lt i), Bool.true_and, Bool.or_eq_true, decide_eq_true_iff]
    by_cases h0 : i = 0
    · exact Or.inl h0
    · right
      rw [← rd_nat, rd_row, befVN (by have := row_lt F.lt (i - 1); omega) (by have := row_lt F.lt i; omega)]
      unfold bef
      rw [decide_eq_true_iff, hget (i - 1) (by omega), hget i hi']
      exact List.pairwise_iff_getElem.1 hs (i - 1) i (by omega) hi' (by omega)
  · rw [List.mem_range', cast_length] at hi
    obtain ⟨i', hi', e⟩ := hi
    have e : i = i' := by omega
    subst e
    rw [List.mem_range'] at hj
    obtain ⟨j', hj', e⟩ := hj
    have e : j = j' := by omega
    subst e
    unfold fam2
    rw [decide_eq_true_iff, ← rd_nat, ← rd_nat, rd_row, rd_row, and_nat (by have := row_lt F.lt i; omega) (by have := row_lt F.lt j; omega)]
    exact memCast.2 (F.meet _ (row_mem hi') _ (row_mem (by omega)))
end Go.Proofs.YtafnamchckehmaaGreatDoor.Pu
namespace Go.Proofs.YtafnamchckehmaaGreatDoor.Pu
open Go.RowKit Go.Proofs.YtafnamchckehmaaGreatDoorW.PrintWords Go.Proofs.YtafnamchckehmaaGreatDoorW.PrintLast Go.Proofs.YtafnamchckehmaaGreatDoorW.PrintMore Go.Proofs.YtafnamchckehmaaGreatDoor.Pr
def areV (n : Int) (l : List IR) : Bool := decide (0 ≤ n ∧ n ≤ 6) && decide ((l.length : Int) ≤ 40) && l.all (ruleB n)
theorem are_loop (n : Int) (l : List IR) (hl : l.length ≤ 9223372036854775807) : ∀ (rest : List IR) (i : Nat), l.drop i = rest → Ev (fun k => spec_AreRules.l0 k n l (i : Int)) (decide (0 ≤ n ∧ n ≤ 6) && decide ((l.length : Int) ≤ 40) && rest.all (ruleB n)) := by
  intro rest
  induction rest with
  | nil =>
    intro i h
    have := drop_nil h
    refine Ev.step (f := fun _ => some (decide (0 ≤ n ∧ n ≤ 6) && decide ((l.length : Int) ≤ 40) && true)) (fun k => ?_) (Ev.now _)
    simp only [spec_AreRules.l0]
    rw [if_neg (by omega), l1In_val, Option.bind_some, Bool.and_true]
    cases decide (0 ≤ n ∧ n ≤ 6) <;> rfl
  | cons x rest ih =>
    intro i h
    obtain ⟨hi, hx, hr⟩ := drop_cons (d := z48) h
    rw [List.all_cons]
    cases e : ruleB n x with
    | true =>
      refine Ev.step (f := fun k => spec_AreRules.l0 k n l ((i + 1 : Nat) : Int)) (fun k => ?_) (ih (i + 1) hr)
      simp only [spec_AreRules.l0]
      rw [if_pos (by omega), if_pos (by omega), rdR, hx, rule_val, Option.bind_some, show (isSetB n x.f0 && isSetB n x.f1) = true from e, if_pos rfl, wrap_succ hi hl]
    | false =>
      refine Ev.step (f := fun _ => some false) (fun k => ?_) ?_
      · simp only [spec_AreRules.l0]
        rw [if_pos (by omega), if_pos (by omega), rdR, hx, rule_val, Option.bind_some, show (isSetB n x.f0 && isSetB n x.f1) = false from e, if_neg (by decide)]
      · rw [Bool.false_and, Bool.and_false]
        exact Ev.now false
theorem areS_val (n : Int) (l : List IR) (hl : l.length ≤ 9223372036854775807) : Ev (fun k => spec_AreRules.f k n l) (areV n l) := are_loop n l hl l 0 rfl
theorem areI_val (n : Int) (l : List IR) : impl_AreRules.f n l = some (areV n l) := rfl
theorem areV_nat {n : Int} {l : List IR} (h : areV n l = true) : ∃ m : Nat, n = (m : Int) ∧ m ≤ 6 ∧ l.length ≤ 40 ∧ l.all anyR = true ∧ ∀ r ∈ l, (toP r).1 < 2 ^ m ∧ (toP r).2 < 2 ^ m := by
  unfold areV at h
  rw [Bool.and_eq_true, Bool.and_eq_true, decide_eq_true_iff, decide_eq_true_iff, List.all_eq_true] at h
  obtain ⟨⟨h1, h2⟩, h3⟩ := h
  refine ⟨n.toNat, by omega, by omega, by omega, List.all_eq_true.2 fun r hr => ?_, fun r hr => ?_⟩
  · have := h3 r hr
    unfold ruleB at this
    rw [Bool.and_eq_true] at this
    unfold anyR
    rw [isSetB_any this.1, isSetB_any this.2]; rfl
  · have := h3 r hr
    unfold ruleB at this
    rw [Bool.and_eq_true] at this
    obtain ⟨m, a, hm, e1, ha, e2⟩ := isSetB_nat this.1
    obtain ⟨m', b, hm', e1', hb, e2'⟩ := isSetB_nat this.2
    unfold toP
    rw [e2, e2', e1, Int.toNat_natCast, Int.toNat_natCast, Int.toNat_natCast]
    refine ⟨ha, ?_⟩
    have : m' = m := by omega
    rw [← this]; exact hb
end Go.Proofs.YtafnamchckehmaaGreatDoor.Pu
namespace Go.Proofs.YtafnamchckehmaaGreatDoor.Pu
open Go.RowKit Go.Proofs.YtafnamchckehmaaGreatDoorW.PrintWords Go.Proofs.YtafnamchckehmaaGreatDoorW.PrintLast Go.Proofs.YtafnamchckehmaaGreatDoorW.PrintMore Go.Proofs.YtafnamchckehmaaGreatDoor.Pr
theorem anyR_rest {l rest : List IR} {i : Nat} {x : IR} (h : l.drop i = x :: rest) (ha : l.all anyR = true) : anyR x = true :=
  List.all_eq_true.1 ha x (List.mem_of_mem_drop (i := i) (by rw [h]; exact List.mem_cons_self))
theorem stepI_loop (l : List IR) (hl : l.length ≤ 9223372036854775807) (ha : l.all anyR = true) (s : Nat) (hs : s < 256) : ∀ (rest : List IR) (i out : Nat), l.drop i = rest → out < 256 →
    Ev (fun k => impl_OneStep.l0 k (s : Int) (out : Int) l (l.length : Int) (i : Int)) (((toR rest).foldl (fun o r => if sub r.1 s then o ||| r.2 else o) out : Nat) : Int) := by
  intro rest
  induction rest with
  | nil =>
    intro i out h ho
    have := drop_nil h
    refine Ev.step (f := fun _ => some (out : Int)) (fun k => ?_) (Ev.now _)
    simp only [impl_OneStep.l0]
    rw [if_neg (by omega)]
  | cons x rest ih =>
    intro i out h ho
    obtain ⟨hi, hx, hr⟩ := drop_cons (d := z48) h
    obtain ⟨e1, e2, h1, h2⟩ := anyR_nat (anyR_rest h ha)
    rw [show toR (x :: rest) = toP x :: toR rest from rfl, List.foldl_cons]
    cases hc : sub (toP x).1 s with
    | true =>
      refine Ev.step (f := fun k => impl_OneStep.l0 k (s : Int) ((out ||| (toP x).2 : Nat) : Int) l (l.length : Int) ((i + 1 : Nat) : Int)) (fun k => ?_) (ih (i + 1) (out ||| (toP x).2) hr (or256 ho h2))
      simp only [impl_OneStep.l0]
      rw [if_pos (by omega), if_pos (by omega), if_pos (by omega), rdR, hx, e1, e2, inSet_val h1 hs, hc, Option.bind_some, if_pos rfl, or_nat (by omega) (by omega), wrap_succ hi hl]
    | false =>
      refine Ev.step (f := fun k => impl_OneStep.l0 k (s : Int) (out : Int) l (l.length : Int) ((i + 1 : Nat) : Int)) (fun k => ?_) (ih (i + 1) out hr ho)
      simp only [impl_OneStep.l0]
      rw [if_pos (by omega), if_pos (by omega), if_pos (by omega), rdR, hx, e1, inSet_val h1 hs, hc, Option.bind_some, if_neg (by decide), wrap_succ hi hl]
def stepV (l : List IR) (s : Int) : Int := if l.all anyR && isAny s then ((step (toR l) s.toNat : Nat) : Int) else s
theorem oneI_val (l : List IR) (hl : l.length ≤ 9223372036854775807) (s : Int) : Ev (fun k => impl_OneStep.f k l s) (stepV l s) := by
  unfold impl_OneStep.f impl_areAnyRules.f stepV
  rw [any_val]
  simp only [Option.bind_some]
  cases hs : isAny s with
  | false =>
    rw [Bool.and_false]
    refine Ev.congr (fun k => ?_) (Ev.step (f := fun _ => some s) (g := fun k => impl_OneStep.j0 k l s true) (fun k => ?_) (Ev.now s))
    · rw [if_neg (by decide)]
    · simp only [impl_OneStep.j0, if_true]
  | true =>
    obtain ⟨n, hn, rfl⟩ := isAny_nat hs
    cases ha : l.all anyR with
    | false =>
      refine Ev.congr (fun k => ?_) (Ev.step (f := fun _ => some (n : Int)) (g := fun k => impl_OneStep.j0 k l (n : Int) true) (fun k => ?_) (Ev.now _))
      · rw [if_pos rfl]; rfl
      · simp only [impl_OneStep.j0, if_true]
    | true =>
      rw [Bool.and_true, if_pos rfl, Int.toNat_natCast]
      refine Ev.congr (fun k => ?_) (Ev.step (g := fun k => impl_OneStep.j0 k l (n : Int) false) (fun k => ?_) (stepI_loop l hl ha n hn l 0 n rfl hn))
      · rw [if_pos rfl]; rfl
      · simp only [impl_OneStep.j0]; rw [if_neg (by decide)]; rfl
theorem clS_inner (l : List IR) (hl : l.length ≤ 9223372036854775807) (ha : l.all anyR = true) (res : Int) : ∀ (rest : List IR) (i s : Nat) (ch : Bool), l.drop i = rest → s < 256 →
    Ev (fun k => spec_l9Closed.l0 k l (((sweep (toR rest) (s, ch)).1 : Nat) : Int) (sweep (toR rest) (s, ch)).2) res → Ev (fun k => spec_l9Closed.l1 k l (s : Int) ch (i : Int)) res := by
  intro rest
  induction rest with
  | nil =>
    intro i s ch h hs he
    have := drop_nil h
    refine Ev.step (fun k => ?_) he
    simp only [spec_l9Closed.l1]
    rw [if_neg (by omega)]
    rfl
  | cons x rest ih =>
    intro i s ch h hs he
    obtain ⟨hi, hx, hr⟩ := drop_cons (d := z48) h
    obtain ⟨e1, e2, h1, h2⟩ := anyR_nat (anyR_rest h ha)
    rw [show sweep (toR (x :: rest)) (s, ch) = sweep (toR rest) (if sub (toP x).1 s && !sub (toP x).2 s then (s ||| (toP x).2, true) else (s, ch)) from rfl] at he
    cases hc : sub (toP x).1 s with
    | false =>
      rw [hc, Bool.false_and, if_neg (by decide)] at he
      refine Ev.step (fun k => ?_) (ih (i + 1) s ch hr hs he)
      simp only [spec_l9Closed.l1]
      rw [if_pos (by omega), if_pos (by omega), rdR, hx, e1, if_neg (by rw [and_eq_sub h1 hs, hc]; decide), wrap_succ hi hl]
    | true =>
      cases hd : sub (toP x).2 s with
      | true =>
        rw [hc, hd, if_neg (by decide)] at he
        refine Ev.step (fun k => ?_) (ih (i + 1) s ch hr hs he)
        simp only [spec_l9Closed.l1]
        rw [if_pos (by omega), if_pos (by omega), rdR, hx, e1, e2, if_pos ((and_eq_sub h1 hs).2 hc), if_pos ((and_eq_sub h2 hs).2 hd), wrap_succ hi hl]
      | false =>
        rw [hc, hd, if_pos (by decide)] at he
        refine Ev.step (fun k => ?_) (ih (i + 1) (s ||| (toP x).2) true hr (or256 hs h2) he)
        simp only [spec_l9Closed.l1]
        rw [if_pos (by omega), if_pos (by omega), rdR, hx, e1, e2, if_pos ((and_eq_sub h1 hs).2 hc), if_neg (by rw [and_eq_sub h2 hs, hd]; decide), or_nat (by omega) (by omega), wrap_succ hi hl]
theorem clS_loop (l : List IR) (hl : l.length ≤ 9223372036854775807) (ha : l.all anyR = true) : ∀ (d s : Nat), s < 256 → 256 - s ≤ d → Ev (fun k => spec_l9Closed.l0 k l (s : Int) true) ((clo (toR l) s : Nat) : Int) := by
  have hR := toR_small ha
  intro d
  induction d with
  | zero => intro s hs hd; omega
  | succ d ih =>
    intro s hs hd
    refine Ev.step (g := fun k => spec_l9Closed.l0 k l (s : Int) true) (f := fun k => spec_l9Closed.l1 k l (s : Int) false ((0 : Nat) : Int)) (fun k => by simp only [spec_l9Closed.l0, if_true]; rfl) ?_
    refine clS_inner l hl ha _ l 0 s false rfl hs ?_
    obtain ⟨a, b, c, e, f⟩ := sweep_spec (toR l) (s, false)
    have hlt := b (fun r hr => (hR r hr).2) hs
    generalize hq : sweep (toR l) (s, false) = q at *
    obtain ⟨s', ch'⟩ := q
    cases ch' with
    | false =>
      obtain ⟨_, h2, h3⟩ := e rfl
      have h2' : s' = s := h2
      subst h2'
      rw [(clo_fix hR hs).2 h3]
      exact Ev.step (f := fun _ => some (s' : Int)) (fun k => by simp only [spec_l9Closed.l0]; rw [if_neg (by decide)]) (Ev.now _)
    | true =>
      have hgt : s < s' := f rfl rfl
      have := ih s' hlt (by omega)
      rwa [clo_of_between hR hs hlt a c] at this
theorem clS_val (l : List IR) (hl : l.length ≤ 9223372036854775807) (ha : l.all anyR = true) (s : Nat) (hs : s < 256) : Ev (fun k => spec_l9Closed.f k l (s : Int)) ((clo (toR l) s : Nat) : Int) := clS_loop l hl ha _ s hs (Nat.le_refl _)
def cloV (l : List IR) (s : Int) : Int := if l.all anyR && isAny s then ((clo (toR l) s.toNat : Nat) : Int) else s
theorem stepV_nat {l : List IR} (ha : l.all anyR = true) {s : Nat} (hs : s < 256) : stepV l (s : Int) = ((step (toR l) s : Nat) : Int) := by
  unfold stepV
  rw [ha, show isAny (s : Int) = true from decide_eq_true (by omega), if_pos (by decide), Int.toNat_natCast]
theorem clI_loop (l : List IR) (hl : l.length ≤ 9223372036854775807) (ha : l.all anyR = true) : ∀ (d s : Nat), s < 256 → 256 - s ≤ d → Ev (fun k => impl_ClosedBy.l0 k l (s : Int) ((step (toR l) s : Nat) : Int)) ((clo (toR l) s : Nat) : Int) := by
  have hR := toR_small ha
  intro d
  induction d with
  | zero => intro s hs hd; omega
  | succ d ih =>
    intro s hs hd
    have hlt := step_lt hR hs
    by_cases e : step (toR l) s = s
    · refine Ev.step (f := fun _ => some (s : Int)) (fun k => ?_) ?_
      · simp only [impl_ClosedBy.l0]; rw [if_pos (by rw [e])]
      · rw [(clo_fix hR hs).2 (step_fix.1 e)]; exact Ev.now _
    · have hgt : s < step (toR l) s := by have := sub_le (sub_step (toR l) s); omega
      refine Ev.step (f := fun k => (impl_OneStep.f k l ((step (toR l) s : Nat) : Int)).bind fun t => impl_ClosedBy.l0 k l ((step (toR l) s : Nat) : Int) t) (fun k => ?_) ?_
      · simp only [impl_ClosedBy.l0]; rw [if_neg (by omega)]
      · refine Ev.bind (oneI_val l hl _) ?_
        rw [stepV_nat ha hlt, ← clo_step hR hs]
        exact ih _ hlt (by omega)
theorem closedI_val (l : List IR) (hl : l.length ≤ 9223372036854775807) (s : Int) : Ev (fun k => impl_ClosedBy.f k l s) (cloV l s) := by
  unfold impl_ClosedBy.f impl_areAnyRules.f cloV
  rw [any_val]
  simp only [Option.bind_some]
  cases hs : isAny s with
  | false =>
    rw [Bool.and_false]
    refine Ev.congr (fun k => ?_) (Ev.step (f := fun _ => some s) (g := fun k => impl_ClosedBy.j0 k l s true) (fun k => ?_) (Ev.now s))
    · rw [if_neg (by decide)]
    · simp only [impl_ClosedBy.j0, if_true]
  | true =>
    obtain ⟨n, hn, rfl⟩ := isAny_nat hs
    cases ha : l.all anyR with
    | false =>
      refine Ev.congr (fun k => ?_) (Ev.step (f := fun _ => some (n : Int)) (g := fun k => impl_ClosedBy.j0 k l (n : Int) true) (fun k => ?_) (Ev.now _))
      · rw [if_pos rfl]; rfl
      · simp only [impl_ClosedBy.j0, if_true]
    | true =>
      rw [Bool.and_true, if_pos rfl, Int.toNat_natCast]
      refine Ev.congr (fun k => ?_) (Ev.step (g := fun k => impl_ClosedBy.j0 k l (n : Int) false) (f := fun k => (impl_OneStep.f k l (n : Int)).bind fun t => impl_ClosedBy.l0 k l (n : Int) t) (fun k => ?_) ?_)
      · rw [if_pos rfl]; rfl
      · simp only [impl_ClosedBy.j0]; rw [if_neg (by decide)]
      · refine Ev.bind (oneI_val l hl _) ?_
        rw [stepV_nat ha hn]
        exact clI_loop l hl ha _ n hn (Nat.le_refl _)
theorem cloV_nat {l : List IR} (ha : l.all anyR = true) {s : Nat} (hs : s < 256) : cloV l (s : Int) = ((clo (toR l) s : Nat) : Int) := by
  unfold cloV
  rw [ha, show isAny (s : Int) = true from decide_eq_true (by omega), if_pos (by decide), Int.toNat_natCast]
end Go.Proofs.YtafnamchckehmaaGreatDoor.Pu
namespace Go.Proofs.YtafnamchckehmaaGreatDoor.Pu
open Go.RowKit Go.Proofs.YtafnamchckehmaaGreatDoorW.PrintWords Go.Proofs.YtafnamchckehmaaGreatDoorW.PrintLast Go.Proofs.YtafnamchckehmaaGreatDoorW.PrintMore Go.Proofs.YtafnamchckehmaaGreatDoor.Pr
def modQ (l : List IR) (s : Nat) : Bool := decide (clo (toR l) s = s)
def modN (m : Nat) (l : List IR) : List Nat := keptN m (modQ l)
def modV (n : Int) (l : List IR) : List Int × Bool := if areV n l = true then (cast (modN n.toNat l), true) else ([], false)
theorem modI_val (n : Int) (l : List IR) (hl : l.length ≤ 1048576) : Ev (fun k => impl_ModelsOf.f k n l) (modV n l) := by
  unfold impl_ModelsOf.f modV
  rw [areI_val]
  simp only [Option.bind_some]
  cases ha : areV n l with
  | false => rw [if_neg (show ¬ (false = true) by decide)]; exact Ev.congr (fun k => by rw [if_neg (by decide)]) (Ev.now _)
  | true =>
    obtain ⟨m, rfl, hm, _, hany, _⟩ := areV_nat ha
    rw [Int.toNat_natCast, if_pos rfl]
    refine Ev.congr (fun k => by rw [if_pos rfl]) ?_
    refine Ev.bind (all_val (show m ≤ 8 by omega)) ?_
    have hp := pow_256 (show m ≤ 8 by omega)
    have hN : (allN m).length ≤ 256 := by rw [allN_length (by omega)]; exact hp
    refine ev_fold (g := fun k (a : List Nat) i => impl_ModelsOf.l0 k l (cast a) (cast (allN m)) ((cast (allN m)).length : Int) i) (keepStep (allN m) (modQ l)) (fun i a => a.length ≤ i) (N := (allN m).length) ?_ (fun i a _ h => keep_len _ _ i a h) (allN m).length 0 [] (by omega) (Nat.le_refl _) ?_
    · intro i a hi hai h
      have hr : row (allN m) i < 256 := by have := allN_row (show m ≤ 8 by omega) hi; omega
      have hc := closedI_val l (by omega) ((row (allN m) i : Nat) : Int)
      rw [cloV_nat hany hr] at hc
      refine Ev.step (f := fun k => (impl_ClosedBy.f k l ((row (allN m) i : Nat) : Int)).bind fun t => if t = ((row (allN m) i : Nat) : Int) then impl_ModelsOf.l0 k l (cast (a ++ [row (allN m) i])) (cast (allN m)) ((cast (allN m)).length : Int) ((i + 1 : Nat) : Int) else impl_ModelsOf.l0 k l (cast a) (cast (allN m)) ((cast (allN m)).length : Int) ((i + 1 : Nat) : Int)) (fun k => ?_) ?_
      · simp only [impl_ModelsOf.l0]
        rw [if_pos (by rw [cast_length]; omega), if_pos (by omega), if_pos (by rw [cast_length]; omega), rd_row, wrap_succ hi (by omega), if_pos (by rw [cast_length]; omega), castOne]
      · refine Ev.bind hc ?_
        unfold keepStep modQ at h
        by_cases e : clo (toR l) (row (allN m) i) = row (allN m) i
        · rw [if_pos (decide_eq_true e)] at h
          exact Ev.congr (fun k => by rw [if_pos (by rw [e])]) h
        · rw [if_neg (by rw [decide_eq_true_iff]; exact e)] at h
          exact Ev.congr (fun k => by rw [if_neg (by omega)]) h
    · intro b hb _
      rw [keep_all, keptN_eq] at hb
      subst hb
      refine Ev.step (f := fun _ => some (cast (modN m l), true)) (fun k => ?_) (Ev.now _)
      simp only [impl_ModelsOf.l0]
      rw [if_neg (by rw [cast_length]; omega)]
      rfl
theorem modS13_val {m : Nat} (hm : m ≤ 6) (l : List IR) (hl : l.length ≤ 1048576) (ha : l.all anyR = true) : Ev (fun k => spec_l13Models.f k (m : Int) l) (cast (modN m l)) := by
  have hp := pow_256 (show m ≤ 8 by omega)
  have h1 := Nat.two_pow_pos m
  unfold spec_l13Models.f
  refine ev_fold (g := fun k (a : List Nat) i => spec_l13Models.l0 k (m : Int) l (cast a) i) (rangeStep (modQ l)) (fun i a => a.length ≤ i) (N := 2 ^ m) ?_ (fun i a _ h => rangeStep_len _ i a h) (2 ^ m) 0 [] (by omega) (Nat.le_refl _) ?_
  · intro i a hi hai h
    refine Ev.step (f := fun k => (spec_l9Closed.f k l (i : Int)).bind fun t => if t = (i : Int) then spec_l13Models.l0 k (m : Int) l (cast (a ++ [i])) ((i + 1 : Nat) : Int) else spec_l13Models.l0 k (m : Int) l (cast a) ((i + 1 : Nat) : Int)) (fun k => ?_) ?_
    · simp only [spec_l13Models.l0]
      rw [fullS_val, fullV_nat (by omega), Option.bind_some, if_pos (by omega), if_pos (by rw [cast_length]; omega), castOne, show wrap64 ((i : Int) + 1) = ((i + 1 : Nat) : Int) from by unfold wrap64; omega]
    · refine Ev.bind (clS_val l (by omega) ha i (by omega)) ?_
      unfold rangeStep modQ at h
      by_cases e : clo (toR l) i = i
      · rw [if_pos (decide_eq_true e)] at h
        exact Ev.congr (fun k => by rw [if_pos (by rw [e])]) h
      · rw [if_neg (by rw [decide_eq_true_iff]; exact e)] at h
        exact Ev.congr (fun k => by rw [if_neg (by omega)]) h
  · intro b hb hbl
    rw [range_all] at hb
    subst hb
    refine Ev.step (f := fun k => (spec_SortLectic.f k (cast ((List.range (2 ^ m)).filter (modQ l)))).bind fun t => some t) (fun k => ?_) ?_
    · simp only [spec_l13Models.l0]
      rw [fullS_val, fullV_nat (by omega), Option.bind_some, if_neg (by omega)]
    · exact Ev.bind (sortS_val (filt_lt (by omega) _) (by omega)) (Ev.now _)
theorem modS_val (n : Int) (l : List IR) (hl : l.length ≤ 1048576) : Ev (fun k => spec_ModelsOf.f k n l) (modV n l) := by
  unfold spec_ModelsOf.f modV
  refine Ev.bind (areS_val n l (by omega)) ?_
  cases ha : areV n l with
  | false => rw [if_neg (show ¬ (false = true) by decide)]; exact Ev.congr (fun k => by rw [if_neg (by decide)]) (Ev.now _)
  | true =>
    obtain ⟨m, rfl, hm, _, hany, _⟩ := areV_nat ha
    rw [Int.toNat_natCast, if_pos rfl]
    refine Ev.congr (fun k => by rw [if_pos rfl]) ?_
    exact Ev.bind (modS13_val hm l hl hany) (Ev.now _)
theorem modV_len (n : Int) (l : List IR) : (modV n l).1.length ≤ 256 := by
  unfold modV
  split
  · rw [cast_length]; exact keptN_le
  · exact Nat.zero_le _
def irmV (n : Int) (l : List IR) : List Int × Bool := if areV n l = true then (cast (irV (modN n.toNat l) n.toNat), true) else ([], false)
theorem irV_len (L : List Nat) (m : Nat) : (irV L m).length ≤ L.length := by
  unfold irV
  exact fold_inv (irStep L m) (fun i a => a.length ≤ i) (fun i a _ h => irStep_len L m i a h) L.length 0 [] (by omega) (Nat.le_refl _)
theorem irmV_len (n : Int) (l : List IR) : (irmV n l).1.length ≤ 256 := by
  unfold irmV
  split
  · rw [cast_length]; exact Nat.le_trans (irV_len _ _) keptN_le
  · exact Nat.zero_le _
theorem irmI_val (n : Int) (l : List IR) (hl : l.length ≤ 1048576) : Ev (fun k => impl_IrreducibleModels.f k n l) (irmV n l) := by
  unfold impl_IrreducibleModels.f irmV
  refine Ev.bind (modI_val n l hl) ?_
  unfold modV
  cases ha : areV n l with
  | false => rw [if_neg (show ¬ (false = true) by decide), if_neg (show ¬ (false = true) by decide)]; exact Ev.congr (fun k => by rw [if_neg (by decide)]) (Ev.now _)
  | true =>
    obtain ⟨m, rfl, hm, _, _, _⟩ := areV_nat ha
    rw [Int.toNat_natCast, if_pos rfl, if_pos rfl]
    refine Ev.congr (fun k => by rw [if_pos rfl]) ?_
    exact Ev.bind (irI_val (modN m l) m hm (Nat.le_trans keptN_le (by decide)) (fun r hr => ((mem_keptN (by omega)).1 hr).1)) (Ev.now _)
theorem irmS_val (n : Int) (l : List IR) (hl : l.length ≤ 1048576) : Ev (fun k => spec_IrreducibleModels.f k n l) (irmV n l) := by
  unfold spec_IrreducibleModels.f irmV
  refine Ev.bind (modS_val n l hl) ?_
  unfold modV
  cases ha : areV n l with
  | false => rw [if_neg (show ¬ (false = true) by decide), if_neg (show ¬ (false = true) by decide)]; exact Ev.congr (fun k => by rw [if_neg (by decide)]) (Ev.now _)
  | true =>
    obtain ⟨m, rfl, hm, _, _, _⟩ := areV_nat ha
    rw [Int.toNat_natCast, if_pos rfl, if_pos rfl]
    refine Ev.congr (fun k => by rw [if_pos rfl]) ?_
    exact Ev.bind (irS_val (modN m l) m hm (Nat.le_trans keptN_le (by decide)) (fun r hr => ((mem_keptN (by omega)).1 hr).1)) (Ev.now _)
def corV (n : Int) (l : List IR) : Int × List Int × Bool := if (irmV n l).2 = true then (if ((irmV n l).1.length : Int) > 8 then (0, [], false) else (n, (irmV n l).1, true)) else (0, [], false)
theorem corV_len (n : Int) (l : List IR) : (corV n l).2.1.length ≤ 256 := by
  have := irmV_len n l
  unfold corV
  split
  · split
    · exact Nat.zero_le _
    · exact this
  · exact Nat.zero_le _
theorem corI_val (n : Int) (l : List IR) (hl : l.length ≤ 1048576) : Ev (fun k => impl_ContextOfRules.f k n l) (corV n l) := by
  unfold impl_ContextOfRules.f corV
  refine Ev.bind (irmI_val n l hl) ?_
  unfold impl_contextOf.f
  by_cases h : (irmV n l).2 = true
  · rw [if_pos h, if_pos h]
    by_cases h2 : ((irmV n l).1.length : Int) > 8
    · rw [if_pos h2, if_pos h2]; exact Ev.now _
    · rw [if_neg h2, if_neg h2]; exact Ev.now _
  · rw [if_neg h, if_neg h]; exact Ev.now _
theorem corS_val (n : Int) (l : List IR) (hl : l.length ≤ 1048576) : Ev (fun k => spec_ContextOfRules.f k n l) (corV n l) := by
  unfold spec_ContextOfRules.f corV
  refine Ev.bind (irmS_val n l hl) ?_
  by_cases h : (irmV n l).2 = true
  · refine Ev.congr (fun k => by rw [if_pos h]) ?_
    rw [if_pos h]
    by_cases h2 : ((irmV n l).1.length : Int) > 8
    · rw [if_pos h2]; exact Ev.congr (fun k => by rw [if_pos h2]) (Ev.now _)
    · rw [if_neg h2]; exact Ev.congr (fun k => by rw [if_neg h2]) (Ev.now _)
  · rw [if_neg h]; exact Ev.congr (fun k => by rw [if_neg h]) (Ev.now _)
end Go.Proofs.YtafnamchckehmaaGreatDoor.Pu
namespace Go.Proofs.YtafnamchckehmaaGreatDoor.Pu
open Go.RowKit Go.Proofs.YtafnamchckehmaaGreatDoorW.PrintWords Go.Proofs.YtafnamchckehmaaGreatDoorW.PrintLast Go.Proofs.YtafnamchckehmaaGreatDoorW.PrintMore Go.Proofs.YtafnamchckehmaaGreatDoor.Pr
def okP (c : Nat → Nat) (s p : Nat) : Bool := !sub p s || sub (c p) s
def plStep (c : Nat → Nat) (s : Nat) (a : List Nat) : List Nat := if (decide (c s ≠ s) && a.all (okP c s)) = true then a ++ [s] else a
theorem pl_fold (c : Nat → Nat) : ∀ N, foldIdx (plStep c) 0 N [] = pl c N
  | 0 => foldIdx_end _ (Nat.le_refl _) _
  | N + 1 => by rw [foldIdx_last _ (Nat.zero_le _), pl_fold c N]; rfl
theorem plStep_inv (c : Nat → Nat) (s : Nat) (a : List Nat) (h : (∀ p ∈ a, p < s) ∧ a.length ≤ s) : (∀ p ∈ plStep c s a, p < s + 1) ∧ (plStep c s a).length ≤ s + 1 := by
  unfold plStep
  split
  · refine ⟨fun p hp => ?_, by rw [List.length_append, List.length_singleton]; omega⟩
    rcases List.mem_append.1 hp with h1 | h1
    · have := h.1 p h1; omega
    · rw [List.mem_singleton] at h1; omega
  · exact ⟨fun p hp => by have := h.1 p hp; omega, by omega⟩
theorem psS_inner {m : Nat} (hm : m ≤ 8) {R : List Nat} (hR : R.length ≤ 8) (hrow : ∀ i, row R i < 256) {s : Nat} (hs : s < 256) {a : List Nat} (ha : ∀ p ∈ a, p < 256) (hal : a.length ≤ 256) {res : List Int} :
    ∀ (rest : List Nat) (i : Nat) (f : Bool), a.drop i = rest → Ev (fun k => spec_l10Pseudo.l0 k (cast (if (f && rest.all (okP (cl m R) s)) = true then a ++ [s] else a)) ((s + 1 : Nat) : Int) (m : Int) (cast R)) res →
      Ev (fun k => spec_l10Pseudo.l1 k (cast a) (s : Int) f (i : Int) (m : Int) (cast R)) res := by
  intro rest
  induction rest with
  | nil =>
    intro i f h hE
    have hle := drop_nil h
    refine Ev.step (fun k => ?_) hE
    simp only [spec_l10Pseudo.l1]
    rw [if_neg (by rw [cast_length]; omega), show wrap64 ((s : Int) + 1) = ((s + 1 : Nat) : Int) from by unfold wrap64; omega]
    cases f with
    | false => rw [if_neg (by decide), if_neg (by simp)]
    | true => rw [if_pos rfl, if_pos (by rw [cast_length]; omega), if_pos (by simp), castOne]
  | cons p rest ih =>
    intro i f h hE
    obtain ⟨hi, hx, hd⟩ := drop_cons (d := 0) h
    have hp : p < 256 := ha p (by rw [← hx, List.getD_eq_getElem?_getD, List.getElem?_eq_getElem hi]; exact List.getElem_mem _)
    have hclp : cl m R p < 256 := cl_256 hm R p
    cases f with
    | false =>
      refine Ev.step (fun k => ?_) (ih (i + 1) false hd (by rw [Bool.false_and] at hE ⊢; exact hE))
      simp only [spec_l10Pseudo.l1]
      rw [if_pos (by rw [cast_length]; omega), if_neg (by decide), wrap_succ hi (by omega)]
    | true =>
      by_cases hsub : sub p s = true
      · have e : okP (cl m R) s p = sub (cl m R p) s := by unfold okP; rw [hsub]; rfl
        rw [Bool.true_and, List.all_cons, e] at hE
        have hih := ih (i + 1) (sub (cl m R p) s) hd hE
        refine Ev.step (f := fun k => (spec_l4Closure.f k (m : Int) (cast R) (p : Int)).bind fun t => (spec_l4Closure.f k (m : Int) (cast R) (p : Int)).bind fun u => spec_l10Pseudo.l1 k (cast a) (s : Int) (Go.bits .and .i64 t (s : Int) == u) ((i + 1 : Nat) : Int) (m : Int) (cast R)) (fun k => ?_) ?_
        · simp only [spec_l10Pseudo.l1]
          rw [if_pos (by rw [cast_length]; omega), if_pos trivial, if_pos (by omega), rdCast, hx, if_pos ((and_is' hp hs).2 hsub), wrap_succ hi (by omega)]
        · refine Ev.bind (clS4_val m hm R hR hrow p hp) ?_
          refine Ev.bind (clS4_val m hm R hR hrow p hp) ?_
          rw [show (Go.bits .and .i64 ((cl m R p : Nat) : Int) (s : Int) == ((cl m R p : Nat) : Int)) = sub (cl m R p) s from by rw [Bool.eq_iff_iff, beq_iff_eq]; exact and_is' hclp hs]
          exact hih
      · have e : okP (cl m R) s p = true := by unfold okP; rw [Bool.not_eq_true] at hsub; rw [hsub]; rfl
        rw [Bool.true_and, List.all_cons, e, Bool.true_and] at hE
        refine Ev.step (fun k => ?_) (ih (i + 1) true hd (by rw [Bool.true_and]; exact hE))
        simp only [spec_l10Pseudo.l1]
        rw [if_pos (by rw [cast_length]; omega), if_pos trivial, if_pos (by omega), rdCast, hx, if_neg (fun h => hsub ((and_is' hp hs).1 h)), wrap_succ hi (by omega)]
theorem psS_val {m : Nat} (hm : m ≤ 6) {R : List Nat} (hR : R.length ≤ 8) (hrow : ∀ i, row R i < 256) : Ev (fun k => spec_l10Pseudo.f k (m : Int) (cast R)) (cast (psN m (cl m R))) := by
  have hp := pow_256 (show m ≤ 8 by omega)
  have hp1 := Nat.two_pow_pos m
  unfold spec_l10Pseudo.f
  refine ev_fold (g := fun k (a : List Nat) i => spec_l10Pseudo.l0 k (cast a) i (m : Int) (cast R)) (plStep (cl m R)) (fun i a => (∀ p ∈ a, p < i) ∧ a.length ≤ i) (N := 2 ^ m) ?_ (fun i a _ h => plStep_inv _ i a h) (2 ^ m) 0 [] (by omega) ⟨(fun p hp => by cases hp), Nat.le_refl _⟩ ?_
  · intro i a hi ha h
    refine Ev.step (f := fun k => (spec_l4Closure.f k (m : Int) (cast R) (i : Int)).bind fun t => if t = (i : Int) then spec_l10Pseudo.l0 k (cast a) ((i + 1 : Nat) : Int) (m : Int) (cast R) else spec_l10Pseudo.l1 k (cast a) (i : Int) true 0 (m : Int) (cast R)) (fun k => ?_) ?_
    · simp only [spec_l10Pseudo.l0]
      rw [fullS_val, fullV_nat (by omega), Option.bind_some, if_pos (by omega), show wrap64 ((i : Int) + 1) = ((i + 1 : Nat) : Int) from by unfold wrap64; omega]
    · refine Ev.bind (clS4_val m (by omega) R hR hrow i (by omega)) ?_
      by_cases e : cl m R i = i
      · unfold plStep at h
        rw [decide_eq_false (fun h => h e), Bool.false_and, if_neg (by decide)] at h
        exact Ev.congr (fun k => by rw [if_pos (by rw [e])]) h
      · unfold plStep at h
        rw [decide_eq_true e] at h
        refine Ev.congr (fun k => by rw [if_neg (by omega)]) ?_
        exact psS_inner (by omega) hR hrow (by omega) (fun p hp => by have := ha.1 p hp; omega) (by omega) a 0 true rfl h
  · intro b hbb hinv
    rw [pl_fold] at hbb
    subst hbb
    refine Ev.step (f := fun k => (spec_SortLectic.f k (cast (pl (cl m R) (2 ^ m)))).bind fun t => some t) (fun k => ?_) ?_
    · simp only [spec_l10Pseudo.l0]
      rw [fullS_val, fullV_nat (by omega), Option.bind_some, if_neg (by omega)]
    · refine Ev.bind (sortS_val (fun x hx => by have := hinv.1 x hx; omega) (by omega)) ?_
      rw [lec_pl]
      exact Ev.now _
def piV (n : Int) (l : List Int) : List Int := if ctxB n l = true then cast (psN n.toNat (cl n.toNat (l.map Int.toNat))) else []
end Go.Proofs.YtafnamchckehmaaGreatDoor.Pu
