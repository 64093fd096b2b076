/- Functions of the program as plain functions, proofs that their calls answer so, and plain laws: what the law needs. No condition beyond what each statement says. -/
import Derived.Test.YtfmpafgmcleogaaGreatDoorZFnLattice7
import Derived.Shelf.Slices.CompactI
import Derived.Shelf.SlSortCmp.Insertion1
import Derived.Shelf.SlSortCmp.Whole1
import Derived.Shelf.SlSortCmp.NoneTotal
import Derived.Deep.Slices
import Derived.WideShapes
import Derived.ProofKit
import Derived.SizedLaws
namespace Go.Proofs.YtfmpafgmcleogaaGreatDoor.Pu
def sub (a b : Nat) : Bool := a &&& b == a
theorem sub_iff {a b : Nat} : sub a b = true ↔ ∀ i, a.testBit i = true → b.testBit i = true := by
  unfold sub
  rw [beq_iff_eq]
  constructor
  · intro h i hi
    rw [← h, Nat.testBit_and] at hi
    exact (Bool.and_eq_true_iff.1 hi).2
  · intro h
    apply Nat.eq_of_testBit_eq
    intro i
    rw [Nat.testBit_and]
    cases ha : a.testBit i with
    | false => rfl
    | true => rw [h i ha]; rfl
theorem sub_refl (a : Nat) : sub a a = true := by simp [sub]
theorem sub_trans {a b c : Nat} (h : sub a b = true) (k : sub b c = true) : sub a c = true :=
  sub_iff.2 fun i hi => sub_iff.1 k i (sub_iff.1 h i hi)
theorem sub_antisymm {a b : Nat} (h : sub a b = true) (k : sub b a = true) : a = b := by
  apply Nat.eq_of_testBit_eq
  intro i
  rw [Bool.eq_iff_iff]
  exact ⟨sub_iff.1 h i, sub_iff.1 k i⟩
theorem and_sub_left (a b : Nat) : sub (a &&& b) a = true := sub_iff.2 fun i hi => by rw [Nat.testBit_and, Bool.and_eq_true] at hi; exact hi.1
theorem and_sub_right (a b : Nat) : sub (a &&& b) b = true := sub_iff.2 fun i hi => by rw [Nat.testBit_and, Bool.and_eq_true] at hi; exact hi.2
theorem sub_and {a b c : Nat} (h : sub c a = true) (k : sub c b = true) : sub c (a &&& b) = true := sub_iff.2 fun i hi => by rw [Nat.testBit_and, sub_iff.1 h i hi, sub_iff.1 k i hi]; rfl
theorem sub_le {a b : Nat} (h : sub a b = true) : a ≤ b := by
  have : a &&& b = a := by simpa [sub] using h
  rw [← this]; exact Nat.and_le_right
theorem sub_zero (a : Nat) : sub 0 a = true := by simp [sub]
def diff (a b : Nat) : Nat := a ^^^ (a &&& b)
theorem testBit_diff (a b i : Nat) : (diff a b).testBit i = (a.testBit i && !b.testBit i) := by
  unfold diff
  rw [Nat.testBit_xor, Nat.testBit_and]
  cases a.testBit i <;> cases b.testBit i <;> rfl
theorem diff_eq_zero {a b : Nat} : diff a b = 0 ↔ sub a b = true := by
  constructor
  · intro h
    refine sub_iff.2 fun i hi => ?_
    have := testBit_diff a b i
    rw [h, hi] at this
    simpa using this
  · intro h
    apply Nat.eq_of_testBit_eq
    intro i
    rw [testBit_diff, Nat.zero_testBit]
    cases ha : a.testBit i with
    | false => rfl
    | true => rw [sub_iff.1 h i ha]; rfl
abbrev Rules := List (Nat × Nat)
def step (R : Rules) (s : Nat) : Nat := R.foldl (fun o r => if sub r.1 s then o ||| r.2 else o) s
def ofBits (f : Nat → Bool) : Nat → Nat
  | 0 => 0
  | k + 1 => ofBits f k ||| (if f k then 2 ^ k else 0)
theorem ofBits_lt (f : Nat → Bool) : ∀ k, ofBits f k < 2 ^ k
  | 0 => by simp [ofBits]
  | k + 1 => by
    have h := ofBits_lt f k
    have h2 : 2 ^ k < 2 ^ (k + 1) := Nat.pow_lt_pow_right (by decide) (by omega)
    unfold ofBits
    refine Nat.or_lt_two_pow (Nat.lt_trans h h2) ?_
    split
    · exact h2
    · exact Nat.two_pow_pos _
theorem testBit_ofBits (f : Nat → Bool) (i : Nat) : ∀ k, (ofBits f k).testBit i = (decide (i < k) && f i)
  | 0 => by simp [ofBits]
  | k + 1 => by
    unfold ofBits
    rw [Nat.testBit_or, testBit_ofBits f i k]
    by_cases h : i < k
    · have hk : ¬ (k = i) := by omega
      have : (if f k = true then 2 ^ k else 0 : Nat).testBit i = false := by
        split
        · rw [Nat.testBit_two_pow]; simp [hk]
        · simp
      simp [this, h, show i < k + 1 from by omega]
    · by_cases e : i = k
      · subst e
        cases hf : f i <;> simp
      · have : (if f k = true then 2 ^ k else 0 : Nat).testBit i = false := by
          split
          · rw [Nat.testBit_two_pow]; simp [show ¬ k = i from fun h => e h.symm]
          · simp
        simp [this, h, show ¬ i < k + 1 from by omega]
theorem lt_two_pow_iff {a k : Nat} : a < 2 ^ k ↔ ∀ i, k ≤ i → a.testBit i = false := by
  constructor
  · intro h i hi
    exact Nat.testBit_lt_two_pow (Nat.lt_of_lt_of_le h (Nat.pow_le_pow_right (by decide) hi))
  · intro h
    exact Nat.lt_pow_two_of_testBit a h
def foldIdx {σ : Type} (f : Nat → σ → σ) (i n : Nat) (s : σ) : σ := (List.range' i (n - i)).foldl (fun s j => f j s) s
theorem foldIdx_end {σ : Type} (f : Nat → σ → σ) {i n : Nat} (h : n ≤ i) (s : σ) : foldIdx f i n s = s := by
  unfold foldIdx; rw [Nat.sub_eq_zero_of_le h]; rfl
theorem foldIdx_step {σ : Type} (f : Nat → σ → σ) {i n : Nat} (h : i < n) (s : σ) : foldIdx f i n s = foldIdx f (i + 1) n (f i s) := by
  unfold foldIdx
  obtain ⟨d, rfl⟩ : ∃ d, n = i + 1 + d := ⟨n - (i + 1), by omega⟩
  rw [show i + 1 + d - i = d + 1 from by omega, show i + 1 + d - (i + 1) = d from by omega, List.range'_succ, List.foldl_cons]
theorem foldIdx_last {σ : Type} (f : Nat → σ → σ) {i n : Nat} (h : i ≤ n) (s : σ) : foldIdx f i (n + 1) s = f n (foldIdx f i n s) := by
  unfold foldIdx
  rw [show n + 1 - i = (n - i) + 1 from by omega, List.range'_concat, List.foldl_append]
  simp only [List.foldl_cons, List.foldl_nil]
  congr 1
  omega
open Go.RowKit Go.Proofs.YtfmpafgmcleogaaGreatDoorW.PrintWords
theorem wraps_i64 (n : Int) (h₀ : 0 ≤ n) (h₁ : n < 2 ^ 63) : IntKind.i64.wrap n = n := by rw [IntKind.wrap_i64]; omega
theorem and_nat {a b : Nat} (ha : a < 2 ^ 63) (hb : b < 2 ^ 63) : Go.bits .and .i64 (a : Int) (b : Int) = ((a &&& b : Nat) : Int) := (bits_nat .i64 63 (by decide) wraps_i64 a b ha hb).1
theorem or_nat {a b : Nat} (ha : a < 2 ^ 63) (hb : b < 2 ^ 63) : Go.bits .or .i64 (a : Int) (b : Int) = ((a ||| b : Nat) : Int) := (bits_nat .i64 63 (by decide) wraps_i64 a b ha hb).2
theorem bits_xor_nat (k : IntKind) (j : Nat) (hj : j ≤ k.bits) (hk : ∀ n : Int, 0 ≤ n → n < 2 ^ j → k.wrap n = n) (a b : Nat) (ha : a < 2 ^ j) (hb : b < 2 ^ j) : bits .xor k a b = ((a ^^^ b : Nat) : Int) := by
  have hp : 2 ^ j ≤ 2 ^ k.bits := Nat.pow_le_pow_right (by decide) hj
  have ha' : a % 2 ^ k.bits = a := Nat.mod_eq_of_lt (Nat.lt_of_lt_of_le ha hp)
  have hb' : b % 2 ^ k.bits = b := Nat.mod_eq_of_lt (Nat.lt_of_lt_of_le hb hp)
  have cast : ∀ n : Nat, n < 2 ^ j → ((n : Nat) : Int) < 2 ^ j := fun n h => by exact_mod_cast h
  simp only [bits, BitVec.ofInt_natCast, BitVec.toNat_xor, BitVec.toNat_ofNat, ha', hb']
  exact hk _ (Int.natCast_nonneg _) (cast _ (Nat.xor_lt_two_pow ha hb))
theorem diff_le (a b : Nat) : diff a b ≤ a := by
  refine sub_le (sub_iff.2 fun i hi => ?_)
  rw [testBit_diff] at hi
  exact (Bool.and_eq_true_iff.1 hi).1
theorem bits_andNot_nat (k : IntKind) (j : Nat) (hj : j ≤ k.bits) (hk : ∀ n : Int, 0 ≤ n → n < 2 ^ j → k.wrap n = n) (a b : Nat) (ha : a < 2 ^ j) (hb : b < 2 ^ j) : bits .andNot k a b = ((diff a b : Nat) : Int) := by
  have hp : 2 ^ j ≤ 2 ^ k.bits := Nat.pow_le_pow_right (by decide) hj
  have ha' : a % 2 ^ k.bits = a := Nat.mod_eq_of_lt (Nat.lt_of_lt_of_le ha hp)
  have hb' : b % 2 ^ k.bits = b := Nat.mod_eq_of_lt (Nat.lt_of_lt_of_le hb hp)
  have cast : ∀ n : Nat, n < 2 ^ j → ((n : Nat) : Int) < 2 ^ j := fun n h => by exact_mod_cast h
  have e : (BitVec.ofNat k.bits a &&& ~~~(BitVec.ofNat k.bits b)).toNat = diff a b := by
    apply Nat.eq_of_testBit_eq
    intro i
    rw [testBit_diff, BitVec.toNat_and, Nat.testBit_and, BitVec.toNat_ofNat, ha']
    by_cases hi : i < k.bits
    · rw [show ((~~~(BitVec.ofNat k.bits b)).toNat).testBit i = (~~~(BitVec.ofNat k.bits b)).getLsbD i from rfl, BitVec.getLsbD_not]
      simp [hi, BitVec.getLsbD, hb']
    · rw [Nat.testBit_lt_two_pow (x := a) (i := i) (Nat.lt_of_lt_of_le ha (Nat.pow_le_pow_right (by decide) (by omega)))]
      simp
  simp only [bits, BitVec.ofInt_natCast, e]
  exact hk _ (Int.natCast_nonneg _) (cast _ (Nat.lt_of_le_of_lt (diff_le a b) ha))
theorem xor_nat {a b : Nat} (ha : a < 2 ^ 63) (hb : b < 2 ^ 63) : Go.bits .xor .i64 (a : Int) (b : Int) = ((a ^^^ b : Nat) : Int) := bits_xor_nat .i64 63 (by decide) wraps_i64 a b ha hb
theorem andNot_nat {a b : Nat} (ha : a < 2 ^ 63) (hb : b < 2 ^ 63) : Go.bits .andNot .i64 (a : Int) (b : Int) = ((diff a b : Nat) : Int) := bits_andNot_nat .i64 63 (by decide) wraps_i64 a b ha hb
def isSetB (n s : Int) : Bool := decide (0 ≤ n ∧ n ≤ 8 ∧ 0 ≤ s ∧ s < 2 ^ n.toNat)
def isAny (s : Int) : Bool := decide (0 ≤ s ∧ s < 256)
theorem isSetB_8 (s : Int) : isSetB 8 s = isAny s := by
  unfold isSetB isAny
  rw [show (8 : Int).toNat = 8 from rfl]
  have : (2 : Int) ^ 8 = 256 := by decide
  rw [this]
  simp
theorem isAny_nat {s : Int} (h : isAny s = true) : ∃ a : Nat, a < 256 ∧ s = (a : Int) := by
  unfold isAny at h
  have := of_decide_eq_true h
  exact ⟨s.toNat, by omega, by omega⟩
theorem isSetB_nat {n s : Int} (h : isSetB n s = true) : ∃ m a : Nat, m ≤ 8 ∧ n = (m : Int) ∧ a < 2 ^ m ∧ s = (a : Int) := by
  unfold isSetB at h
  obtain ⟨h1, h2, h3, h4⟩ := of_decide_eq_true h
  refine ⟨n.toNat, s.toNat, by omega, by omega, ?_, by omega⟩
  have : ((s.toNat : Nat) : Int) < ((2 ^ n.toNat : Nat) : Int) := by rw [Int.toNat_of_nonneg h3]; simpa using h4
  exact_mod_cast this
theorem isSetB_mk {m a : Nat} (hm : m ≤ 8) (ha : a < 2 ^ m) : isSetB (m : Int) (a : Int) = true := by
  unfold isSetB
  have : ((a : Nat) : Int) < ((2 ^ m : Nat) : Int) := by exact_mod_cast ha
  rw [decide_eq_true_iff]
  refine ⟨by omega, by omega, by omega, ?_⟩
  simpa using this
theorem upper_val (n : Int) (h0 : 0 ≤ n) (h1 : n ≤ 8) : wrap64 ((shl .i64 1 n) - 1) = 2 ^ n.toNat - 1 := by
  have h : n = 0 ∨ n = 1 ∨ n = 2 ∨ n = 3 ∨ n = 4 ∨ n = 5 ∨ n = 6 ∨ n = 7 ∨ n = 8 := by omega
  rcases h with rfl | rfl | rfl | rfl | rfl | rfl | rfl | rfl | rfl <;> decide +kernel
theorem wrapU_val (n : Int) (h0 : 0 ≤ n) (h1 : n ≤ 8) : IntKind.u64.wrap n = n := by
  have h : n = 0 ∨ n = 1 ∨ n = 2 ∨ n = 3 ∨ n = 4 ∨ n = 5 ∨ n = 6 ∨ n = 7 ∨ n = 8 := by omega
  rcases h with rfl | rfl | rfl | rfl | rfl | rfl | rfl | rfl | rfl <;> decide +kernel
open Go.RowKit Go.Proofs.YtfmpafgmcleogaaGreatDoorW.PrintWords Go.Proofs.YtfmpafgmcleogaaGreatDoorW.PrintLast Go.Proofs.YtfmpafgmcleogaaGreatDoorW.PrintMore Go.Proofs.YtfmpafgmcleogaaGreatDoor.Pr
theorem wrap_succ {i n : Nat} (h : i < n) (hn : n ≤ 9223372036854775807) : wrap64 ((i : Int) + 1) = ((i + 1 : Nat) : Int) := by unfold wrap64; omega
theorem drop_nil {α : Type} {l : List α} {i : Nat} (h : l.drop i = []) : l.length ≤ i := by
  have := congrArg List.length h
  simp at this; omega
theorem drop_cons {α : Type} {l rest : List α} {i : Nat} {x d : α} (h : l.drop i = x :: rest) : i < l.length ∧ l.getD i d = x ∧ l.drop (i + 1) = rest := by
  have hi : i < l.length := by
    rcases Nat.lt_or_ge i l.length with h' | h'
    · exact h'
    · rw [List.drop_of_length_le h'] at h; cases h
  rw [List.drop_eq_getElem_cons hi] at h
  injection h with h1 h2
  exact ⟨hi, by rw [List.getD_eq_getElem?_getD, List.getElem?_eq_getElem hi]; exact h1, h2⟩
theorem rd_nat (l : List Int) (i : Nat) : rd l (i : Int) = l.getD i 0 := by unfold rd; rw [Int.toNat_natCast]
theorem l1In_val (a b c : Int) : spec_l1In.f a b c = some (decide (b ≤ a ∧ a ≤ c)) := by
  unfold spec_l1In.f
  by_cases h : b ≤ a
  · rw [if_pos h]; simp [h]
  · rw [if_neg h]; simp [h]
theorem within_val (a b c : Int) : impl_within.f a b c = some (decide (b ≤ a ∧ a ≤ c)) := by
  unfold impl_within.f
  by_cases h : b ≤ a
  · rw [if_pos h]; simp [h]
  · rw [if_neg h]; simp [h]
theorem setB_of {n s : Int} (h : 0 ≤ n ∧ n ≤ 8) : decide (0 ≤ s ∧ s ≤ 2 ^ n.toNat - 1) = isSetB n s := by
  unfold isSetB
  generalize (2 : Int) ^ n.toNat = q
  rw [decide_eq_decide]
  omega
theorem setB_not {n s : Int} (h : ¬ (0 ≤ n ∧ n ≤ 8)) : isSetB n s = false := by
  unfold isSetB
  rw [decide_eq_false_iff_not]
  omega
theorem specSet_val (n s : Int) : spec_IsSet.f n s = some (isSetB n s) := by
  unfold spec_IsSet.f
  rw [l1In_val, Option.bind_some]
  by_cases h : 0 ≤ n ∧ n ≤ 8
  · rw [if_pos (decide_eq_true h), wrapU_val n h.1 h.2, if_pos h.1, upper_val n h.1 h.2, l1In_val, Option.bind_some, setB_of h]
  · rw [if_neg (by simpa using h), setB_not h]
theorem set_val (n s : Int) : impl_IsSet.f n s = some (isSetB n s) := by
  unfold impl_IsSet.f
  rw [within_val, Option.bind_some]
  by_cases h : 0 ≤ n ∧ n ≤ 8
  · rw [if_pos (decide_eq_true h), if_pos h.1, upper_val n h.1 h.2, within_val, Option.bind_some, setB_of h]
  · rw [if_neg (by simpa using h), setB_not h]
theorem any_val (s : Int) : impl_isAnySet.f s = some (isAny s) := by
  unfold impl_isAnySet.f
  rw [set_val, Option.bind_some, isSetB_8]
theorem shr_nat (a e : Nat) (he : e ≤ 64) : shr .i64 (a : Int) (e : Int) = ((a / 2 ^ e : Nat) : Int) := by
  unfold shr
  rw [Int.toNat_natCast, show (IntKind.i64).bits = 64 from rfl, Nat.min_eq_left he]
  simp
theorem bit_val (a e : Nat) (ha : a < 2 ^ 63) (he : e ≤ 64) : (Go.bits .and .i64 (shr .i64 (a : Int) (e : Int)) 1 == 1) = a.testBit e := by
  rw [shr_nat a e he]
  have h1 : a / 2 ^ e < 2 ^ 63 := Nat.lt_of_le_of_lt (Nat.div_le_self _ _) ha
  have h2 := and_nat h1 (show 1 < 2 ^ 63 by decide)
  rw [show ((1 : Nat) : Int) = 1 from rfl] at h2
  rw [h2, Nat.and_one_is_mod, Nat.testBit_eq_decide_div_mod_eq, Bool.eq_iff_iff, beq_iff_eq, decide_eq_true_iff]
  omega
def hasV (s e : Int) : Bool := isAny s && (decide (0 ≤ e ∧ e ≤ 7) && s.toNat.testBit e.toNat)
theorem wrapU_small (e : Int) (h0 : 0 ≤ e) (h1 : e ≤ 64) : IntKind.u64.wrap e = e := by
  simp [IntKind.wrap, IntKind.bits, IntKind.signed]
  omega
theorem l2Has_val (a e : Nat) (ha : a < 2 ^ 63) (he : e ≤ 64) : spec_l2Has.f (a : Int) (e : Int) = some (a.testBit e) := by
  unfold spec_l2Has.f
  rw [wrapU_small _ (by omega) (by omega), if_pos (by omega), bit_val a e ha he]
theorem hasI_val (s e : Int) : impl_HasElement.f s e = some (hasV s e) := by
  unfold impl_HasElement.f hasV
  rw [any_val, Option.bind_some]
  cases hs : isAny s with
  | false => rfl
  | true =>
    obtain ⟨a, ha, rfl⟩ := isAny_nat hs
    rw [if_pos rfl, within_val, Option.bind_some]
    by_cases he : 0 ≤ e ∧ e ≤ 7
    · obtain ⟨n, rfl⟩ : ∃ n : Nat, e = (n : Int) := ⟨e.toNat, by omega⟩
      rw [if_pos (decide_eq_true he), if_pos he.1, bit_val a n (by omega) (by omega), decide_eq_true he]
      simp
    · rw [if_neg (by simpa using he), decide_eq_false he]
      rfl
def rv (s : Nat) : Nat := ((s &&& 1) <<< 7) ||| ((s &&& 2) <<< 5) ||| ((s &&& 4) <<< 3) ||| ((s &&& 8) <<< 1) ||| ((s &&& 16) >>> 1) ||| ((s &&& 32) >>> 3) ||| ((s &&& 64) >>> 5) ||| ((s &&& 128) >>> 7)
def bef (s t : Nat) : Bool := decide (rv s < rv t)
theorem rv_all : ∀ s : Fin 256, rv (rv s.val) = s.val ∧ rv s.val < 256 := by decide +kernel
theorem rv_rv {s : Nat} (h : s < 256) : rv (rv s) = s := (rv_all ⟨s, h⟩).1
theorem rv_lt {s : Nat} (h : s < 256) : rv s < 256 := (rv_all ⟨s, h⟩).2
theorem rv_inj {s t : Nat} (hs : s < 256) (ht : t < 256) (h : rv s = rv t) : s = t := by rw [← rv_rv hs, ← rv_rv ht, h]
def all8 : List Nat := (List.range 256).map rv
def lecS (L : List Nat) : Prop := L.Pairwise fun a b => rv a < rv b
theorem all8_sorted : lecS all8 := by
  unfold lecS all8
  refine List.pairwise_map.2 (List.Pairwise.imp_of_mem ?_ List.pairwise_lt_range)
  intro a b ha hb h
  rw [rv_rv (List.mem_range.1 ha), rv_rv (List.mem_range.1 hb)]
  exact h
theorem mem_all8 {s : Nat} : s ∈ all8 ↔ s < 256 := by
  unfold all8
  rw [List.mem_map]
  constructor
  · rintro ⟨i, hi, rfl⟩
    exact rv_lt (List.mem_range.1 hi)
  · intro h
    exact ⟨rv s, List.mem_range.2 (rv_lt h), rv_rv h⟩
theorem sorted_filter {T L : List Nat} : lecS T → lecS L → (∀ x ∈ L, x ∈ T) → L = T.filter fun x => decide (x ∈ L) := by
  induction T generalizing L with
  | nil =>
    intro _ _ h
    cases L with
    | nil => rfl
    | cons x L => exact absurd (h x List.mem_cons_self) (by simp)
  | cons t T ih =>
    intro hT hL h
    have hT' := List.pairwise_cons.1 hT
    by_cases ht : t ∈ L
    · cases L with
      | nil => cases ht
      | cons l L =>
        have hL' := List.pairwise_cons.1 hL
        have e : l = t := by
          by_cases e : l = t
          · exact e
          · exfalso
            have h1 : t ∈ L := by
              rcases List.mem_cons.1 ht with h | h
              · exact absurd h.symm e
              · exact h
            have h2 := hL'.1 t h1
            have h3 : l ∈ T := by
              rcases List.mem_cons.1 (h l List.mem_cons_self) with h | h
              · exact absurd h e
              · exact h
            have h4 := hT'.1 l h3
            omega
        subst e
        rw [List.filter_cons_of_pos (by simp)]
        refine congrArg (l :: ·) ?_
        have h5 : ∀ x ∈ L, x ∈ T := fun x hx => by
          rcases List.mem_cons.1 (h x (List.mem_cons_of_mem _ hx)) with h6 | h6
          · subst h6; exact absurd (hL'.1 x hx) (Nat.lt_irrefl _)
          · exact h6
        rw [ih hT'.2 hL'.2 h5]
        refine List.filter_congr fun x hx => ?_
        have hne : x ≠ l := fun e => absurd (hT'.1 x hx) (by rw [e]; exact Nat.lt_irrefl _)
        rw [decide_eq_decide]
        have e0 := ih hT'.2 hL'.2 h5
        rw [← e0, List.mem_cons]
        exact ⟨Or.inr, fun h => h.resolve_left hne⟩
    · rw [List.filter_cons_of_neg (by simpa using ht)]
      refine ih hT'.2 hL fun x hx => ?_
      rcases List.mem_cons.1 (h x hx) with h6 | h6
      · subst h6; exact absurd hx ht
      · exact h6
def lecF (p : Nat → Bool) : List Nat := all8.filter p
theorem mem_lecF {p : Nat → Bool} {s : Nat} : s ∈ lecF p ↔ s < 256 ∧ p s = true := by unfold lecF; rw [List.mem_filter, mem_all8]
theorem lecF_sorted (p : Nat → Bool) : lecS (lecF p) := List.Pairwise.filter p all8_sorted
theorem lec_unique {L : List Nat} (h : lecS L) (hb : ∀ x ∈ L, x < 256) : L = lecF fun s => decide (s ∈ L) := sorted_filter all8_sorted h fun x hx => mem_all8.2 (hb x hx)
theorem lecF_congr {p q : Nat → Bool} (h : ∀ s, s < 256 → p s = q s) : lecF p = lecF q := List.filter_congr fun s hs => h s (mem_all8.1 hs)
theorem lec_eq {L : List Nat} {p : Nat → Bool} (h : lecS L) (hb : ∀ x, x ∈ L ↔ x < 256 ∧ p x = true) : L = lecF p := by
  rw [lec_unique h fun x hx => ((hb x).1 hx).1]
  refine lecF_congr fun s hs => ?_
  rw [Bool.eq_iff_iff, decide_eq_true_iff, hb]
  exact ⟨fun h => h.2, fun h => ⟨hs, h⟩⟩
theorem lecF_filter (p q : Nat → Bool) : (lecF p).filter q = lecF fun s => p s && q s := by
  unfold lecF
  rw [List.filter_filter]
  exact List.filter_congr fun s _ => Bool.and_comm _ _
def low (d : Nat) : Nat := d &&& (256 - d)
theorem low_bef_all : ((List.range 256).all fun s => (List.range 256).all fun t => ((t &&& low (s ^^^ t)) != 0) == bef s t) = true := by decide +kernel
theorem low_bef {s t : Nat} (hs : s < 256) (ht : t < 256) : ((t &&& low (s ^^^ t)) != 0) = bef s t := by
  have := List.all_eq_true.1 low_bef_all s (List.mem_range.2 hs)
  exact eq_of_beq (List.all_eq_true.1 this t (List.mem_range.2 ht))
theorem ctz_low : ∀ d : Fin 256, d.val ≠ 0 → Lib.ctz 64 d.val ≤ 7 ∧ 2 ^ Lib.ctz 64 d.val = low d.val := by decide +kernel
theorem bit_low : ∀ t : Fin 256, ∀ i : Fin 8, t.val.testBit i.val = ((t.val &&& 2 ^ i.val) != 0) := by decide +kernel
theorem bef_irrefl (s : Nat) : bef s s = false := by unfold bef; exact decide_eq_false (Nat.lt_irrefl _)
theorem xor_zero_eq {a b : Nat} (e : a ^^^ b = 0) : a = b := by
  have e2 : (a ^^^ b) ^^^ b = 0 ^^^ b := by rw [e]
  rw [Nat.xor_assoc, Nat.xor_self, Nat.xor_zero, Nat.zero_xor] at e2
  exact e2
def befV (s t : Int) : Bool := isAny s && isAny t && bef s.toNat t.toNat
theorem befI_val (s t : Int) : Ev (fun k => impl_BeforeSet.f k s t) (befV s t) := by
  unfold impl_BeforeSet.f
  have hF : Ev (fun k => impl_BeforeSet.j0 k s t true) false := Ev.step (f := fun k => some false) (fun k => by simp [impl_BeforeSet.j0]) (Ev.now false)
  rw [any_val, any_val]
  simp only [Option.bind_some]
  unfold befV
  cases hs : isAny s with
  | false => exact Ev.congr (fun k => by rw [if_neg (by decide)]) hF
  | true =>
    cases ht : isAny t with
    | false => exact Ev.congr (fun k => by rw [if_pos rfl, if_neg (by decide)]) hF
    | true =>
      obtain ⟨a, ha, rfl⟩ := isAny_nat hs
      obtain ⟨b, hb, rfl⟩ := isAny_nat ht
      refine Ev.congr (fun k => by rw [if_pos rfl, if_pos rfl]) ?_
      simp only [Int.toNat_natCast, Bool.true_and]
      by_cases h : (a : Int) = (b : Int)
      · obtain rfl : a = b := by omega
        rw [bef_irrefl, show ((a : Int) == (a : Int)) = true by simp]
        exact hF
      · rw [show ((a : Int) == (b : Int)) = false by simp; omega]
        have hx : a ^^^ b < 256 := Nat.xor_lt_two_pow (n := 8) ha hb
        have hne : a ^^^ b ≠ 0 := fun e => h (congrArg (fun (n : Nat) => (n : Int)) (xor_zero_eq e))
        obtain ⟨h7, hl⟩ := ctz_low ⟨a ^^^ b, hx⟩ hne
        simp only at h7 hl
        have ez : bits_TrailingZeros.f (IntKind.u64.wrap (Go.bits .xor .i64 (a : Int) (b : Int))) = some ((Lib.ctz 64 (a ^^^ b) : Nat) : Int) := by
          unfold bits_TrailingZeros.f bits_TrailingZeros64.f
          rw [xor_nat (by omega) (by omega), show IntKind.u64.wrap ((a ^^^ b : Nat) : Int) = ((a ^^^ b : Nat) : Int) by rw [IntKind.wrap_u64]; omega, if_pos (by omega), Int.toNat_natCast]
          rfl
        have hb2 := bit_low ⟨b, hb⟩ ⟨Lib.ctz 64 (a ^^^ b), by omega⟩
        simp only at hb2
        refine Ev.step (f := fun k => some (bef a b)) (fun k => ?_) (Ev.now _)
        simp only [impl_BeforeSet.j0]
        rw [if_neg (by decide), ez]
        simp only [Option.bind_some]
        rw [hasI_val]
        unfold hasV
        rw [ht]
        simp only [Int.toNat_natCast, Bool.true_and, Option.bind_some]
        rw [hb2, hl, low_bef ha hb, decide_eq_true (by omega), Bool.true_and]
structure Clos (n : Nat) (c : Nat → Nat) : Prop where
  lt : ∀ s, s < 2 ^ n → c s < 2 ^ n
  ext : ∀ s, s < 2 ^ n → sub s (c s) = true
  mono : ∀ s t, s < 2 ^ n → t < 2 ^ n → sub s t = true → sub (c s) (c t) = true
  idem : ∀ s, s < 2 ^ n → c (c s) = c s
variable {n : Nat} {c : Nat → Nat}
theorem pow_le_256 (hn : n ≤ 8) : 2 ^ n ≤ 256 := show 2 ^ n ≤ 2 ^ 8 from Nat.pow_le_pow_right (by decide) hn
theorem nodup_le : ∀ (m : Nat) (l : List Nat), l.Nodup → (∀ x ∈ l, x < m) → l.length ≤ m := by
  intro m
  induction m with
  | zero =>
    intro l _ h
    cases l with
    | nil => exact Nat.le_refl _
    | cons x l => exact absurd (h x List.mem_cons_self) (by omega)
  | succ m ih =>
    intro l hn h
    have h1 := ih (l.erase m) (hn.erase m) fun x hx => by
      have h2 := (List.Nodup.mem_erase_iff hn).1 hx
      have := h x h2.2
      omega
    by_cases hm : m ∈ l
    · have := List.length_erase_of_mem hm
      have := List.length_pos_of_mem hm
      omega
    · rw [List.erase_of_not_mem hm] at h1
      omega
end Go.Proofs.YtfmpafgmcleogaaGreatDoor.Pu
namespace Go.Proofs.YtfmpafgmcleogaaGreatDoor.Pu
open Go.RowKit Go.Proofs.YtfmpafgmcleogaaGreatDoorW.PrintWords Go.Proofs.YtfmpafgmcleogaaGreatDoorW.PrintLast Go.Proofs.YtfmpafgmcleogaaGreatDoorW.PrintMore Go.Proofs.YtfmpafgmcleogaaGreatDoor.Pr
theorem ev_fold {α β : Type} {g : Nat → α → Int → Option β} (f : Nat → α → α) (inv : Nat → α → Prop) {res : β} {N : Nat}
    (hs : ∀ i a, i < N → inv i a → Ev (fun k => g k (f i a) ((i + 1 : Nat) : Int)) res → Ev (fun k => g k a (i : Int)) res)
    (hp : ∀ i a, i < N → inv i a → inv (i + 1) (f i a)) :
    ∀ (d i : Nat) (a : α), i + d = N → inv i a → (∀ b, b = foldIdx f i N a → inv N b → Ev (fun k => g k b (N : Int)) res) → Ev (fun k => g k a (i : Int)) res := by
  intro d
  induction d with
  | zero =>
    intro i a h hi he
    obtain rfl : i = N := by omega
    exact he a (foldIdx_end f (Nat.le_refl _) a).symm hi
  | succ d ih =>
    intro i a h hi he
    refine hs i a (by omega) hi (ih (i + 1) (f i a) (by omega) (hp i a (by omega) hi) fun b hb hb' => he b ?_ hb')
    rw [hb, ← foldIdx_step f (by omega)]
theorem fold_congr {α : Type} {f g : Nat → α → α} {N : Nat} : ∀ (d i : Nat) (a : α), i + d = N → (∀ j a, i ≤ j → j < N → f j a = g j a) → foldIdx f i N a = foldIdx g i N a := by
  intro d
  induction d with
  | zero => intro i a h _; rw [foldIdx_end f (by omega), foldIdx_end g (by omega)]
  | succ d ih =>
    intro i a h hc
    rw [foldIdx_step f (by omega), foldIdx_step g (by omega), hc i a (Nat.le_refl _) (by omega)]
    exact ih (i + 1) _ (by omega) fun j a hj => hc j a (by omega)
def bitStep (b : Nat → Bool) (i a : Nat) : Nat := if b i = true then a ||| 2 ^ i else a
theorem fold_bits (b : Nat → Bool) : ∀ n, foldIdx (bitStep b) 0 n 0 = ofBits b n
  | 0 => foldIdx_end _ (Nat.le_refl _) _
  | n + 1 => by
    rw [foldIdx_last _ (Nat.zero_le _), fold_bits b n, ofBits, bitStep]
    cases b n <;> simp
theorem bitStep_lt {b : Nat → Bool} {i a n : Nat} (hi : i < n) (ha : a < 2 ^ n) : bitStep b i a < 2 ^ n := by
  unfold bitStep
  split
  · exact Nat.or_lt_two_pow ha (Nat.pow_lt_pow_right (by decide) hi)
  · exact ha
theorem shl_one (e : Nat) (he : e ≤ 8) : shl .i64 1 (e : Int) = ((2 ^ e : Nat) : Int) := by
  have h : e = 0 ∨ e = 1 ∨ e = 2 ∨ e = 3 ∨ e = 4 ∨ e = 5 ∨ e = 6 ∨ e = 7 ∨ e = 8 := by omega
  rcases h with rfl | rfl | rfl | rfl | rfl | rfl | rfl | rfl | rfl <;> decide +kernel
theorem shl_zero (e : Nat) (he : e ≤ 8) : shl .i64 0 (e : Int) = 0 := by
  have h : e = 0 ∨ e = 1 ∨ e = 2 ∨ e = 3 ∨ e = 4 ∨ e = 5 ∨ e = 6 ∨ e = 7 ∨ e = 8 := by omega
  rcases h with rfl | rfl | rfl | rfl | rfl | rfl | rfl | rfl | rfl <;> decide +kernel
theorem pow_256 {n : Nat} (h : n ≤ 8) : 2 ^ n ≤ 256 := show 2 ^ n ≤ 2 ^ 8 from Nat.pow_le_pow_right (by decide) h
theorem lt_256 {n a : Nat} (h : n ≤ 8) (ha : a < 2 ^ n) : a < 256 := Nat.lt_of_lt_of_le ha (pow_256 h)
theorem or_bit {a e : Nat} (ha : a < 256) (he : e ≤ 7) : Go.bits .or .i64 (a : Int) (shl .i64 1 (e : Int)) = ((a ||| 2 ^ e : Nat) : Int) := by
  have h8 : 2 ^ e ≤ 2 ^ 7 := Nat.pow_le_pow_right (by decide) he
  rw [shl_one e (by omega)]
  exact or_nat (by omega) (by omega)
theorem and_is {a b : Nat} (ha : a < 256) (hb : b < 256) : (Go.bits .and .i64 (b : Int) (a : Int) = (a : Int)) ↔ sub a b = true := by
  rw [and_nat (by omega) (by omega), Nat.and_comm, Int.natCast_inj]
  unfold sub
  simp
theorem andNot_is {a b : Nat} (ha : a < 256) (hb : b < 256) : (Go.bits .andNot .i64 (a : Int) (b : Int) = 0) ↔ sub a b = true := by
  rw [andNot_nat (by omega) (by omega), ← diff_eq_zero]
  omega
def cast (R : List Nat) : List Int := R.map fun (x : Nat) => (x : Int)
theorem cast_length (R : List Nat) : (cast R).length = R.length := List.length_map ..
theorem rd_cast (R : List Nat) (i : Nat) : rd (cast R) (i : Int) = ((R.getD i 0 : Nat) : Int) := by
  rw [rd_nat]
  unfold cast
  rw [List.getD_eq_getElem?_getD, List.getD_eq_getElem?_getD, List.getElem?_map]
  cases R[i]? <;> rfl
theorem cast_of {l : List Int} (h : ∀ x ∈ l, 0 ≤ x) : l = cast (l.map Int.toNat) := by
  unfold cast
  rw [List.map_map]
  conv => lhs; rw [← List.map_id l]
  refine List.map_congr_left fun x hx => ?_
  have := h x hx
  simp [Int.toNat_of_nonneg this]
end Go.Proofs.YtfmpafgmcleogaaGreatDoor.Pu
namespace Go.Proofs
open Go.Shelf
def Tryz.laysNm220_ren : Go.Shelf.Ren := ⟨fun | 20 => 94 | n => n, fun | 22 => 24 | 3 => 3 | 4 => 4 | 0 => 0 | n => n, fun | n => n⟩
theorem Tryz.laysNm220 : Go.Proofs.Lays2.n20 Tryz.prog Tryz.laysNm220_ren := {
  mixed := by kernel_rfl
  f20 := Tryz.func94.trans (congrArg some (by kernel_rfl))
  t0 := Tryz.underlying0
  a0 := Tryz.isAgg0
  z0 := Tryz.sizeOf0
  v0 := Tryz.zeroValue0
  t3 := Tryz.underlying3
  a3 := Tryz.isAgg3
  z3 := Tryz.sizeOf3
  v3 := Tryz.zeroValue3
  t4 := Tryz.underlying4
  a4 := Tryz.isAgg4
  z4 := Tryz.sizeOf4
  v4 := Tryz.zeroValue4
  t22 := Tryz.underlying24
  a22 := Tryz.isAgg24
  z22 := Tryz.sizeOf24
  v22 := Tryz.zeroValue24
  i3 := by kernel_rfl }
open Go.RowKit Go.Lib Go.Sort in
theorem Tryz.slices_Compact_int (blk off cap : Nat) (zs : List Int) (w : World) (hH : Holds (Value.int .i64) w blk off zs.toArray) (hsz : zs.length ≤ 9223372036854775807) (hcap : zs.length ≤ cap) :
    Calls Tryz.prog 94 #[.slice (some ⟨blk, off, none⟩) zs.length cap] w fun e w' => e = .returned (.slice (some ⟨blk, off, none⟩) (Lib.compact zs).length cap) ∧ ∃ q, w' = putRow (Value.int .i64) (Sort.ahead w q) blk off (Lib.compact zs ++ List.replicate (zs.length - (Lib.compact zs).length) 0).toArray := Any.slices_Compact_int Tryz.laysNm220 blk off cap zs w hH hsz hcap
def Tryz.laysSlF6_f91_ren : Go.Shelf.Ren := ⟨fun | 6 => 91 | 15 => 99 | 14 => 98 | 28 => 111 | 29 => 112 | 20 => 103 | 21 => 104 | 22 => 105 | 23 => 106 | 24 => 107 | 25 => 108 | 26 => 109 | 27 => 110 | 46 => 115 | 47 => 116 | 48 => 117 | 49 => 118 | 50 => 119 | 57 => 120 | n => n, fun | 22 => 24 | 24 => 3 | 25 => 42 | 3 => 3 | 39 => 74 | 0 => 0 | 53 => 92 | 55 => 94 | 4 => 4 | 46 => 86 | 45 => 85 | 50 => 60 | 5 => 5 | 9 => 9 | 66 => 95 | 70 => 99 | 76 => 103 | 77 => 104 | n => n, fun | n => n⟩
theorem Tryz.laysSlF6_f91 : Go.Proofs.SlLaysF.n6 Tryz.prog Tryz.laysSlF6_f91_ren := {
  mixed := by kernel_rfl
  f6 := ⟨Tryz.f91.name, by decide, Tryz.func91.trans (congrArg some (by kernel_rfl))⟩
  f14 := ⟨Tryz.f98.name, by decide, Tryz.func98.trans (congrArg some (by kernel_rfl))⟩
  f15 := Tryz.func99.trans (congrArg some (by kernel_rfl))
  f20 := ⟨Tryz.f103.name, by decide, Tryz.func103.trans (congrArg some (by kernel_rfl))⟩
  f21 := ⟨Tryz.f104.name, by decide, Tryz.func104.trans (congrArg some (by kernel_rfl))⟩
  f22 := ⟨Tryz.f105.name, by decide, Tryz.func105.trans (congrArg some (by kernel_rfl))⟩
  f23 := ⟨Tryz.f106.name, by decide, Tryz.func106.trans (congrArg some (by kernel_rfl))⟩
  f24 := ⟨Tryz.f107.name, by decide, Tryz.func107.trans (congrArg some (by kernel_rfl))⟩
  f25 := ⟨Tryz.f108.name, by decide, Tryz.func108.trans (congrArg some (by kernel_rfl))⟩
  f26 := ⟨Tryz.f109.name, by decide, Tryz.func109.trans (congrArg some (by kernel_rfl))⟩
  f27 := ⟨Tryz.f110.name, by decide, Tryz.func110.trans (congrArg some (by kernel_rfl))⟩
  f28 := Tryz.func111.trans (congrArg some (by kernel_rfl))
  f29 := Tryz.func112.trans (congrArg some (by kernel_rfl))
  f46 := ⟨Tryz.f115.name, by decide, Tryz.func115.trans (congrArg some (by kernel_rfl))⟩
  f47 := Tryz.func116.trans (congrArg some (by kernel_rfl))
  f48 := Tryz.func117.trans (congrArg some (by kernel_rfl))
  f49 := ⟨Tryz.f118.name, by decide, Tryz.func118.trans (congrArg some (by kernel_rfl))⟩
  f50 := ⟨Tryz.f119.name, by decide, Tryz.func119.trans (congrArg some (by kernel_rfl))⟩
  f57 := ⟨Tryz.f120.name, by decide, Tryz.func120.trans (congrArg some (by kernel_rfl))⟩
  t0 := Tryz.underlying0
  a0 := Tryz.isAgg0
  z0 := Tryz.sizeOf0
  v0 := Tryz.zeroValue0
  t3 := Tryz.underlying3
  a3 := Tryz.isAgg3
  z3 := Tryz.sizeOf3
  v3 := Tryz.zeroValue3
  t4 := Tryz.underlying4
  a4 := Tryz.isAgg4
  z4 := Tryz.sizeOf4
  v4 := Tryz.zeroValue4
  t5 := Tryz.underlying5
  a5 := Tryz.isAgg5
  z5 := Tryz.sizeOf5
  v5 := Tryz.zeroValue5
  t9 := Tryz.underlying9
  a9 := Tryz.isAgg9
  z9 := Tryz.sizeOf9
  v9 := Tryz.zeroValue9
  t22 := Tryz.underlying24
  a22 := Tryz.isAgg24
  z22 := Tryz.sizeOf24
  v22 := Tryz.zeroValue24
  a24 := Tryz.isAgg3
  z24 := Tryz.sizeOf3
  t25 := Tryz.underlying42
  a25 := Tryz.isAgg42
  z25 := Tryz.sizeOf42
  v25 := Tryz.zeroValue42
  t39 := Tryz.underlying74
  a39 := Tryz.isAgg74
  z39 := Tryz.sizeOf74
  v39 := Tryz.zeroValue74
  t45 := Tryz.underlying85
  a45 := Tryz.isAgg85
  z45 := Tryz.sizeOf85
  v45 := Tryz.zeroValue85
  t46 := Tryz.underlying86
  a46 := Tryz.isAgg86
  z46 := Tryz.sizeOf86
  v46 := Tryz.zeroValue86
  t50 := Tryz.underlying60
  a50 := Tryz.isAgg60
  z50 := Tryz.sizeOf60
  v50 := Tryz.zeroValue60
  t53 := Tryz.underlying92
  a53 := Tryz.isAgg92
  z53 := Tryz.sizeOf92
  v53 := Tryz.zeroValue92
  t55 := Tryz.underlying94
  a55 := Tryz.isAgg94
  z55 := Tryz.sizeOf94
  v55 := Tryz.zeroValue94
  t66 := Tryz.underlying95
  a66 := Tryz.isAgg95
  z66 := Tryz.sizeOf95
  v66 := Tryz.zeroValue95
  t70 := Tryz.underlying99
  a70 := Tryz.isAgg99
  z70 := Tryz.sizeOf99
  v70 := Tryz.zeroValue99
  t76 := Tryz.underlying103
  a76 := Tryz.isAgg103
  z76 := Tryz.sizeOf103
  v76 := Tryz.zeroValue103
  t77 := Tryz.underlying104
  a77 := Tryz.isAgg104
  z77 := Tryz.sizeOf104
  v77 := Tryz.zeroValue104 }
open Go.RowKit Go.Lib Go.Sort in
theorem Tryz.slices_SortFunc {α : Type} [Inhabited α] (enc : α → Value) (h1 : OneCell enc) (cf : α → α → Int) (hO : SWO (ltOf cf)) (g : Nat) (cb : Array Value) (blk off cap : Nat) (d : Array α) (w : World) (eg : ∀ args w, (callFunc g args).run Tryz.prog w = .ok (.enter g args) w) (hcmp : CmpLays1 Tryz.prog g cb enc cf blk off d.size w) (hH : Holds enc w blk off d) (hblk : blk < w.heap.size) (hsz : d.size < 4611686018427387904) :
    Calls Tryz.prog 91 #[.slice (some ⟨blk, off, none⟩) d.size cap, .func (.func g) #[] cb] w fun e w' =>
      e = .returned (.tuple #[]) ∧ ∃ d' n os, PermIn 0 d.size d d' ∧ SortedIn (ltOf cf) 0 d.size d' ∧ w' = sortWorld enc w blk off n d' os := Any.slices_SortFunc Tryz.laysSlF6_f91 enc h1 cf hO g cb blk off cap d w eg hcmp hH hblk hsz
end Go.Proofs
namespace Go.Proofs.YtfmpafgmcleogaaGreatDoor.Pu
def stp (U : Nat → Nat → Bool) (F : List Nat) (k : Nat) : Nat := (List.range k).foldl (fun a i => if U k i = true then max a (F.getD i 0 + 1) else a) 0
def farL (U : Nat → Nat → Bool) : Nat → List Nat
  | 0 => []
  | k + 1 => farL U k ++ [stp U (farL U k) k]
def far (U : Nat → Nat → Bool) (k : Nat) : Nat := stp U (farL U k) k
theorem farL_len (U : Nat → Nat → Bool) : ∀ k, (farL U k).length = k
  | 0 => rfl
  | k + 1 => by rw [farL, List.length_append, farL_len U k]; rfl
theorem farL_get (U : Nat → Nat → Bool) {i : Nat} : ∀ {n}, i < n → (farL U n).getD i 0 = far U i := by
  intro n
  induction n with
  | zero => intro h; omega
  | succ n ih =>
    intro h
    rw [farL, List.getD_eq_getElem?_getD]
    by_cases e : i < n
    · rw [List.getElem?_append_left (by rw [farL_len]; exact e), ← List.getD_eq_getElem?_getD, ih e]
    · have : i = n := by omega
      subst this
      rw [List.getElem?_append_right (by rw [farL_len]; exact Nat.le_refl _), farL_len, Nat.sub_self]
      rfl
theorem fold_base (p : Nat → Bool) (f : Nat → Nat) : ∀ (l : List Nat) (a : Nat), a ≤ l.foldl (fun a i => if p i = true then max a (f i) else a) a := by
  intro l
  induction l with
  | nil => intro a; exact Nat.le_refl _
  | cons x l ih =>
    intro a
    rw [List.foldl_cons]
    refine Nat.le_trans ?_ (ih _)
    split
    · exact Nat.le_max_left _ _
    · exact Nat.le_refl _
theorem fold_ge {p : Nat → Bool} {f : Nat → Nat} {i : Nat} (hp : p i = true) : ∀ {l : List Nat}, i ∈ l → ∀ a, f i ≤ l.foldl (fun a i => if p i = true then max a (f i) else a) a := by
  intro l
  induction l with
  | nil => intro h; cases h
  | cons x l ih =>
    intro h a
    rw [List.foldl_cons]
    rcases List.mem_cons.1 h with e | e
    · subst e
      rw [if_pos hp]
      exact Nat.le_trans (Nat.le_max_right _ _) (fold_base p f l _)
    · exact ih e _
theorem fold_le {p : Nat → Bool} {f : Nat → Nat} {b : Nat} : ∀ {l : List Nat}, (∀ i ∈ l, p i = true → f i ≤ b) → ∀ {a}, a ≤ b → l.foldl (fun a i => if p i = true then max a (f i) else a) a ≤ b := by
  intro l
  induction l with
  | nil => intro _ a h; exact h
  | cons x l ih =>
    intro hl a ha
    rw [List.foldl_cons]
    refine ih (fun i hi => hl i (List.mem_cons_of_mem _ hi)) ?_
    split
    · rename_i hx
      exact Nat.max_le.2 ⟨ha, hl x (List.mem_cons_self ..) hx⟩
    · exact ha
theorem stp_eq (U : Nat → Nat → Bool) (k : Nat) : far U k = (List.range k).foldl (fun a i => if U k i = true then max a (far U i + 1) else a) 0 := by
  have key : ∀ (l : List Nat), (∀ i ∈ l, i < k) → ∀ a, l.foldl (fun a i => if U k i = true then max a ((farL U k).getD i 0 + 1) else a) a = l.foldl (fun a i => if U k i = true then max a (far U i + 1) else a) a := by
    intro l
    induction l with
    | nil => intro _ a; rfl
    | cons x l ih =>
      intro hl a
      rw [List.foldl_cons, List.foldl_cons, farL_get U (hl x (List.mem_cons_self ..))]
      exact ih (fun i hi => hl i (List.mem_cons_of_mem _ hi)) _
  exact key _ (fun i hi => List.mem_range.1 hi) 0
theorem far_ge {U : Nat → Nat → Bool} {k i : Nat} (h : i < k) (hu : U k i = true) : far U i + 1 ≤ far U k := by
  rw [stp_eq U k]
  exact fold_ge (p := U k) (f := fun i => far U i + 1) hu (List.mem_range.2 h) 0
theorem far_le {U : Nat → Nat → Bool} {k b : Nat} (hb : ∀ i, i < k → U k i = true → far U i + 1 ≤ b) : far U k ≤ b := by
  rw [stp_eq U k]
  exact fold_le (p := U k) (f := fun i => far U i + 1) (fun i hi => hb i (List.mem_range.1 hi)) (Nat.zero_le _)
def cov (U : Nat → Nat → Bool) (n a b : Nat) : Bool := decide (a ≠ b) && U a b && (List.range n).all fun k => !(decide (a ≠ k) && U a k && (decide (k ≠ b) && U k b))
theorem cov_iff {U : Nat → Nat → Bool} {n a b : Nat} : cov U n a b = true ↔ (a ≠ b ∧ U a b = true) ∧ ∀ k, k < n → ¬ ((a ≠ k ∧ U a k = true) ∧ k ≠ b ∧ U k b = true) := by
  unfold cov
  rw [Bool.and_eq_true, Bool.and_eq_true, decide_eq_true_iff, List.all_eq_true]
  refine and_congr Iff.rfl ⟨fun h k hk => ?_, fun h k hk => ?_⟩
  · have := h k (List.mem_range.2 hk)
    rw [Bool.not_eq_true', Bool.and_eq_false_iff, Bool.and_eq_false_iff, Bool.and_eq_false_iff] at this
    rintro ⟨⟨h1, h2⟩, h3, h4⟩
    rcases this with (h | h) | (h | h)
    · exact absurd h1 (of_decide_eq_false h)
    · rw [h2] at h; cases h
    · exact absurd h3 (of_decide_eq_false h)
    · rw [h4] at h; cases h
  · have h2 := h k (List.mem_range.1 hk)
    cases e1 : decide (a ≠ k) with
    | false => rfl
    | true =>
      cases e2 : U a k with
      | false => rfl
      | true =>
        cases e3 : decide (k ≠ b) with
        | false => rfl
        | true =>
          cases e4 : U k b with
          | false => rfl
          | true => exact absurd ⟨⟨of_decide_eq_true e1, e2⟩, of_decide_eq_true e3, e4⟩ h2
def upN (U : Nat → Nat → Bool) (n a : Nat) : List Nat := (List.range n).filter (cov U n a)
def lowN (U : Nat → Nat → Bool) (n b : Nat) : List Nat := (List.range n).filter fun a => cov U n a b
theorem mem_upN {U : Nat → Nat → Bool} {n a b : Nat} : b ∈ upN U n a ↔ b < n ∧ cov U n a b = true := by unfold upN; rw [List.mem_filter, List.mem_range]
theorem mem_lowN {U : Nat → Nat → Bool} {n a b : Nat} : a ∈ lowN U n b ↔ a < n ∧ cov U n a b = true := by unfold lowN; rw [List.mem_filter, List.mem_range]
theorem cov_ex {U : Nat → Nat → Bool} {n : Nat} (hd : ∀ a b, a < n → b < n → U a b = true → a ≠ b → b < a) (ht : ∀ a b c, a < n → b < n → c < n → U a b = true → U b c = true → U a c = true)
    {a i : Nat} (ha : a < n) (hi : i < n) (hu : U a i = true) (hne : a ≠ i) : ∃ c, c < n ∧ cov U n a c = true ∧ (c = i ∨ (c ≠ i ∧ U c i = true)) := by
  have key : ∀ d x, a - x ≤ d → x < n → a ≠ x → U a x = true → (x = i ∨ (x ≠ i ∧ U x i = true)) → ∃ c, c < n ∧ cov U n a c = true ∧ (c = i ∨ (c ≠ i ∧ U c i = true)) := by
    intro d
    induction d with
    | zero =>
      intro x hx hxn hax hux _
      have := hd a x ha hxn hux hax
      omega
    | succ d ih =>
      intro x hx hxn hax hux hxi
      by_cases e : cov U n a x = true
      · exact ⟨x, hxn, e, hxi⟩
      · rw [cov_iff] at e
        have : ¬ ∀ k, k < n → ¬ ((a ≠ k ∧ U a k = true) ∧ k ≠ x ∧ U k x = true) := fun h => e ⟨⟨hax, hux⟩, h⟩
        simp only [Classical.not_forall, Classical.not_not] at this
        obtain ⟨k, hk, ⟨hak, huk⟩, hkx, hukx⟩ := this
        have h1 := hd k x hk hxn hukx hkx
        have h2 := hd a k ha hk huk hak
        refine ih k (by omega) hk hak huk ?_
        rcases hxi with e | ⟨e, hxi⟩
        · subst e
          exact Or.inr ⟨hkx, hukx⟩
        · have h3 := hd x i hxn hi hxi e
          exact Or.inr ⟨by omega, ht k x i hk hxn hi hukx hxi⟩
  exact key a i (by omega) hi hne hu (Or.inl rfl)
theorem far_up {U : Nat → Nat → Bool} {n : Nat} (hd : ∀ a b, a < n → b < n → U a b = true → a ≠ b → b < a) (ht : ∀ a b c, a < n → b < n → c < n → U a b = true → U b c = true → U a c = true)
    {a : Nat} (ha : a < n) : (upN U n a).foldl (fun b x => max b (1 + far U x)) 0 = far U a := by
  have e : (upN U n a).foldl (fun b x => max b (1 + far U x)) 0 = (upN U n a).foldl (fun b x => if (fun _ => true) x = true then max b ((fun x => far U x + 1) x) else b) 0 := by
    congr 1
    funext b x
    rw [if_pos rfl, Nat.add_comm]
  rw [e]
  refine Nat.le_antisymm (fold_le (p := fun _ => true) (f := fun x => far U x + 1) (fun i hi _ => ?_) (Nat.zero_le _)) (far_le fun i hi hu => ?_)
  · obtain ⟨h1, h2⟩ := mem_upN.1 hi
    obtain ⟨⟨h3, h4⟩, _⟩ := cov_iff.1 h2
    exact far_ge (hd a i ha h1 h4 h3) h4
  · obtain ⟨c, hc, hcov, hci⟩ := cov_ex hd ht ha (by omega) hu (by omega)
    have h1 := fold_ge (p := fun _ => true) (f := fun x => far U x + 1) (i := c) rfl (mem_upN.2 ⟨hc, hcov⟩) 0
    refine Nat.le_trans ?_ h1
    rcases hci with e | ⟨hne, hci⟩
    · rw [e]; exact Nat.le_refl _
    · have h2 := hd c i hc (by omega) hci hne
      have h3 := far_ge h2 hci
      show far U i + 1 ≤ far U c + 1
      omega
theorem far_last {U : Nat → Nat → Bool} {n : Nat} (hl : ∀ i, i < n → U n i = true) : (List.range (n + 1)).foldl (fun b k => max b (far U k)) 0 = far U n := by
  have e : (List.range (n + 1)).foldl (fun b x => max b (far U x)) 0 = (List.range (n + 1)).foldl (fun b x => if (fun _ => true) x = true then max b (far U x) else b) 0 := by
    congr 1
  rw [e]
  refine Nat.le_antisymm (fold_le (p := fun _ => true) (f := far U) (fun i hi _ => ?_) (Nat.zero_le _)) (fold_ge (p := fun _ => true) (f := far U) rfl (List.mem_range.2 (Nat.lt_succ_self _)) 0)
  rw [List.mem_range] at hi
  by_cases h : i = n
  · rw [h]; exact Nat.le_refl _
  · have := far_ge (k := n) (i := i) (by omega) (hl i (by omega))
    omega
def full (n : Nat) : Nat := 2 ^ n - 1
theorem testBit_full (n i : Nat) : (full n).testBit i = decide (i < n) := Nat.testBit_two_pow_sub_one ..
theorem full_lt (n : Nat) : full n < 2 ^ n := by unfold full; have := Nat.two_pow_pos n; omega
def row (rows : List Nat) (g : Nat) : Nat := rows.getD g 0
def col (rows : List Nat) (m : Nat) : Nat := ofBits (fun g => (row rows g).testBit m) rows.length
def ext (rows : List Nat) (a : Nat) : Nat := ofBits (fun g => sub a (row rows g)) rows.length
def int (n : Nat) (rows : List Nat) (o : Nat) : Nat := ofBits (fun m => (List.range rows.length).all fun g => !o.testBit g || (row rows g).testBit m) n
def cl (n : Nat) (rows : List Nat) (a : Nat) : Nat := int n rows (ext rows a)
theorem testBit_ext {rows : List Nat} {a g : Nat} : (ext rows a).testBit g = (decide (g < rows.length) && sub a (row rows g)) := testBit_ofBits ..
theorem testBit_int {n : Nat} {rows : List Nat} {o m : Nat} : (int n rows o).testBit m = true ↔ m < n ∧ ∀ g, g < rows.length → o.testBit g = true → (row rows g).testBit m = true := by
  unfold int
  rw [testBit_ofBits, Bool.and_eq_true, decide_eq_true_iff, List.all_eq_true]
  constructor
  · rintro ⟨h1, h2⟩
    refine ⟨h1, fun g hg ho => ?_⟩
    have := h2 g (List.mem_range.2 hg)
    rw [ho] at this
    simpa using this
  · rintro ⟨h1, h2⟩
    refine ⟨h1, fun g hg => ?_⟩
    cases ho : o.testBit g with
    | false => rfl
    | true => simp [h2 g (List.mem_range.1 hg) ho]
theorem testBit_cl {n : Nat} {rows : List Nat} {a m : Nat} : (cl n rows a).testBit m = true ↔ m < n ∧ ∀ g, g < rows.length → sub a (row rows g) = true → (row rows g).testBit m = true := by
  unfold cl
  rw [testBit_int]
  refine and_congr_right fun _ => forall_congr' fun g => forall_congr' fun hg => ?_
  rw [testBit_ext]
  simp [hg]
theorem cl_lt (n : Nat) (rows : List Nat) (a : Nat) : cl n rows a < 2 ^ n := ofBits_lt ..
theorem sub_full {n a : Nat} (h : a < 2 ^ n) : sub a (full n) = true := sub_iff.2 fun i hi => by
  rw [testBit_full, decide_eq_true_iff]
  rcases Nat.lt_or_ge i n with h' | h'
  · exact h'
  · rw [lt_two_pow_iff.1 h i h'] at hi; cases hi
theorem sub_cl {n : Nat} {rows : List Nat} {a : Nat} (h : a < 2 ^ n) : sub a (cl n rows a) = true := sub_iff.2 fun i hi => by
  rw [testBit_cl]
  exact ⟨by simpa [testBit_full] using sub_iff.1 (sub_full h) i hi, fun g _ hs => sub_iff.1 hs i hi⟩
theorem cl_sub_row {n : Nat} {rows : List Nat} {a g : Nat} (hg : g < rows.length) (h : sub a (row rows g) = true) : sub (cl n rows a) (row rows g) = true := sub_iff.2 fun _ hi => (testBit_cl.1 hi).2 g hg h
theorem cl_mono {n : Nat} {rows : List Nat} {a b : Nat} (h : sub a b = true) : sub (cl n rows a) (cl n rows b) = true := sub_iff.2 fun i hi => by
  rw [testBit_cl] at hi ⊢
  exact ⟨hi.1, fun g hg hs => hi.2 g hg (sub_trans h hs)⟩
theorem cl_idem {n : Nat} {rows : List Nat} {a : Nat} (hn : a < 2 ^ n) : cl n rows (cl n rows a) = cl n rows a := by
  apply Nat.eq_of_testBit_eq
  intro i
  rw [Bool.eq_iff_iff, testBit_cl, testBit_cl]
  refine and_congr_right fun _ => forall_congr' fun g => forall_congr' fun hg => ⟨fun h hs => h (cl_sub_row hg hs), fun h hs => ?_⟩
  exact h (sub_trans (sub_cl hn) hs)
theorem clos_cl (m : Nat) (R : List Nat) : Clos m (cl m R) where
  lt := fun s _ => cl_lt m R s
  ext := fun _ hs => sub_cl hs
  mono := fun _ _ _ _ h => cl_mono h
  idem := fun _ hs => cl_idem hs
open Go.RowKit Go.Proofs.YtfmpafgmcleogaaGreatDoorW.PrintWords Go.Proofs.YtfmpafgmcleogaaGreatDoorW.PrintLast Go.Proofs.YtfmpafgmcleogaaGreatDoorW.PrintMore Go.Proofs.YtfmpafgmcleogaaGreatDoor.Pr
theorem castOne (a : List Nat) (x : Nat) : cast a ++ [(x : Int)] = cast (a ++ [x]) := by unfold cast; rw [List.map_append]; rfl
theorem cast_any {R : List Nat} (hR : ∀ x ∈ R, x < 256) : (cast R).all isAny = true := by
  rw [List.all_eq_true]
  intro x hx
  unfold cast at hx
  obtain ⟨y, hy, rfl⟩ := List.mem_map.1 hx
  unfold isAny
  have := hR y hy
  rw [decide_eq_true_iff]
  omega
def lecR (R : List Nat) : List Nat := lecF fun s => decide (s ∈ R)
theorem lecR_len {R : List Nat} : (lecR R).length ≤ 256 := by
  unfold lecR lecF
  refine Nat.le_trans (List.length_filter_le _ _) ?_
  unfold all8
  rw [List.length_map, List.length_range]
  exact Nat.le_refl _
theorem mem_lecR {R : List Nat} (hR : ∀ x ∈ R, x < 256) {x : Nat} : x ∈ lecR R ↔ x ∈ R := by
  unfold lecR
  rw [mem_lecF, decide_eq_true_iff]
  exact ⟨fun h => h.2, fun h => ⟨hR x h, h⟩⟩
theorem lecR_nodup (R : List Nat) : (lecR R).Nodup := (lecF_sorted _).imp fun h e => by subst e; omega
theorem lecR_length {R : List Nat} (hR : ∀ x ∈ R, x < 256) (hn : R.Nodup) : (lecR R).length = R.length :=
  Nat.le_antisymm ((lecR_nodup R).length_le_of_subset fun _ hx => (mem_lecR hR).1 hx) (hn.length_le_of_subset fun _ hx => (mem_lecR hR).2 hx)
theorem lecR_filter (q : Nat → Bool) {m : Nat} : (lecR (List.range (2 ^ m))).filter q = lecR ((List.range (2 ^ m)).filter q) := by
  unfold lecR
  rw [lecF_filter]
  refine lecF_congr fun s _ => ?_
  rw [Bool.eq_iff_iff, Bool.and_eq_true, decide_eq_true_iff, decide_eq_true_iff, List.mem_filter]
def keepStep (L : List Nat) (q : Nat → Bool) (i : Nat) (a : List Nat) : List Nat := if q (row L i) = true then a ++ [row L i] else a
theorem fold_keep (L : List Nat) (q : Nat → Bool) : ∀ (rest : List Nat) (i : Nat) (a : List Nat), L.drop i = rest → foldIdx (keepStep L q) i L.length a = a ++ rest.filter q := by
  intro rest
  induction rest with
  | nil =>
    intro i a h
    rw [foldIdx_end _ (drop_nil h)]
    simp
  | cons x rest ih =>
    intro i a h
    obtain ⟨hi, hx, hd⟩ := drop_cons (d := 0) h
    rw [foldIdx_step _ hi, ih (i + 1) _ hd, List.filter_cons]
    unfold keepStep row
    rw [hx]
    cases q x with
    | true => rw [if_pos rfl, if_pos rfl, List.append_assoc]; rfl
    | false => rw [if_neg (by decide), if_neg (by decide)]
theorem keep_all (L : List Nat) (q : Nat → Bool) : foldIdx (keepStep L q) 0 L.length [] = L.filter q := by rw [fold_keep L q L 0 [] rfl]; rfl
theorem keep_len (L : List Nat) (q : Nat → Bool) (i : Nat) (a : List Nat) (h : a.length ≤ i) : (keepStep L q i a).length ≤ i + 1 := by
  unfold keepStep
  split
  · rw [List.length_append, List.length_singleton]; omega
  · omega
def rangeStep (q : Nat → Bool) (i : Nat) (a : List Nat) : List Nat := if q i = true then a ++ [i] else a
theorem range_all (q : Nat → Bool) (N : Nat) : foldIdx (rangeStep q) 0 N [] = (List.range N).filter q := by
  have h := keep_all (List.range N) q
  rw [List.length_range] at h
  rw [← h]
  refine fold_congr N 0 [] (by omega) fun j a _ hj => ?_
  unfold rangeStep keepStep row
  rw [List.getD_eq_getElem?_getD, List.getElem?_range hj]
  rfl
theorem rangeStep_len (q : Nat → Bool) (i : Nat) (a : List Nat) (h : a.length ≤ i) : (rangeStep q i a).length ≤ i + 1 := by
  unfold rangeStep
  split
  · rw [List.length_append, List.length_singleton]; omega
  · omega
def fullV (n : Int) : Int := if 0 ≤ n ∧ n ≤ 8 then 2 ^ n.toNat - 1 else 0
theorem fullS_val (n : Int) : spec_FullSet.f n = some (fullV n) := by
  unfold spec_FullSet.f fullV
  rw [l1In_val, Option.bind_some]
  by_cases h : 0 ≤ n ∧ n ≤ 8
  · rw [if_pos h]
    first
      | rw [if_pos (decide_eq_true h), wrapU_val n h.1 h.2, if_pos h.1, upper_val n h.1 h.2]
      | rw [if_neg (by simpa using h), wrapU_val n h.1 h.2, if_pos h.1, upper_val n h.1 h.2]
  · rw [if_neg h]
    first
      | rw [if_neg (by simpa using h)]
      | rw [if_pos (by simpa using h)]
theorem fullV_nat {m : Nat} (h : m ≤ 8) : fullV (m : Int) = ((2 ^ m - 1 : Nat) : Int) := by
  unfold fullV
  rw [if_pos (by omega), Int.toNat_natCast]
  have hp := Nat.two_pow_pos m
  rw [show ((2 ^ m - 1 : Nat) : Int) = ((2 ^ m : Nat) : Int) - 1 from by omega, Int.natCast_pow]
  rfl
theorem row_lt {R : List Nat} {q : Nat} (h : ∀ r ∈ R, r < 2 ^ q) (i : Nat) : row R i < 2 ^ q := by
  unfold row
  rw [List.getD_eq_getElem?_getD]
  cases h' : R[i]? with
  | none => exact Nat.two_pow_pos q
  | some x => exact h x (List.mem_of_getElem? h')
theorem rd_row (R : List Nat) (i : Nat) : rd (cast R) (i : Int) = ((row R i : Nat) : Int) := rd_cast R i
theorem fullI_val (n : Int) : impl_FullSet.f n = some (fullV n) := by
  unfold impl_FullSet.f fullV
  rw [within_val, Option.bind_some]
  by_cases h : 0 ≤ n ∧ n ≤ 8
  · rw [if_pos h, if_pos (decide_eq_true h), if_pos h.1, upper_val n h.1 h.2]
  · rw [if_neg h, if_neg (by simpa using h)]
theorem fullN {m : Nat} (h : m ≤ 8) : fullV (m : Int) = ((full m : Nat) : Int) := fullV_nat h
theorem uncast (R : List Nat) : (cast R).map Int.toNat = R := by
  unfold cast
  rw [List.map_map]
  conv => rhs; rw [← List.map_id R]
  exact List.map_congr_left fun x _ => by simp
theorem full_256 {m : Nat} (h : m ≤ 8) : full m < 256 := lt_256 h (full_lt m)
theorem bit01 (a e : Nat) (ha : a < 2 ^ 63) (he : e ≤ 64) : Go.bits .and .i64 (shr .i64 (a : Int) (e : Int)) 1 = if a.testBit e = true then 1 else 0 := by
  have h := bit_val a e ha he
  cases hb : a.testBit e with
  | true => rw [hb, beq_iff_eq] at h; rw [h]; rfl
  | false =>
    rw [shr_nat a e he]
    have h1 : a / 2 ^ e < 2 ^ 63 := Nat.lt_of_le_of_lt (Nat.div_le_self _ _) ha
    have h2 := and_nat h1 (show 1 < 2 ^ 63 by decide)
    rw [show ((1 : Nat) : Int) = 1 from rfl] at h2
    rw [Nat.testBit_eq_decide_div_mod_eq, decide_eq_false_iff_not] at hb
    rw [h2, Nat.and_one_is_mod, show a / 2 ^ e % 2 = 0 from by omega]
    rfl
theorem or_shl {a e : Nat} {b : Bool} (ha : a < 256) (he : e ≤ 7) : Go.bits .or .i64 (a : Int) (shl .i64 (if b = true then 1 else 0) (e : Int)) = ((if b = true then a ||| 2 ^ e else a : Nat) : Int) := by
  cases b with
  | true => rw [if_pos rfl, if_pos rfl]; exact or_bit ha he
  | false =>
    rw [if_neg (by decide), if_neg (by decide), shl_zero e (by omega)]
    have := or_nat (a := a) (b := 0) (by omega) (by decide)
    rw [Nat.or_zero] at this
    exact this
theorem and_255 (x : Int) : 0 ≤ Go.bits .and .i64 x 255 ∧ Go.bits .and .i64 x 255 ≤ 255 := by
  have e : Go.bits .and .i64 x 255 = IntKind.i64.wrap (((BitVec.ofInt 64 x &&& BitVec.ofInt 64 255).toNat : Nat) : Int) := rfl
  have hq : (BitVec.ofInt 64 x &&& BitVec.ofInt 64 255).toNat ≤ 255 := by
    rw [BitVec.toNat_and]
    exact Nat.le_trans Nat.and_le_right (by decide)
  rw [e, wraps_i64 _ (by omega) (by omega)]
  omega
theorem byte_ex (b : List Int) (hb : b.length ≤ 1048576) (i h : Int) (h0 : 0 ≤ i) : ∃ x i' h' : Int, spec_l1Byte.f b i h = some (x, i', h') ∧ 0 ≤ x ∧ x ≤ 255 ∧ 0 ≤ i' := by
  unfold spec_l1Byte.f
  by_cases hi : i < (b.length : Int)
  · rw [if_pos hi, if_pos h0]
    exact ⟨_, _, _, rfl, (and_255 _).1, (and_255 _).2, by unfold wrap64; omega⟩
  · rw [if_neg hi]
    exact ⟨_, _, _, rfl, (and_255 _).1, (and_255 _).2, h0⟩
theorem tmod_in {a n : Int} (h0 : 0 ≤ a) (hn : 0 < n) : 0 ≤ Int.tmod a n ∧ Int.tmod a n < n := by
  rw [Int.tmod_eq_emod_of_nonneg h0]
  exact ⟨Int.emod_nonneg _ (by omega), Int.emod_lt_of_pos _ hn⟩
theorem below_ex (b : List Int) (hb : b.length ≤ 1048576) (i h : Int) (h0 : 0 ≤ i) (n : Int) : ∃ x i' h' : Int, spec_l1Below.f b i h n = some (x, i', h') ∧ 0 ≤ x ∧ (0 < n → x < n) ∧ 0 ≤ i' := by
  unfold spec_l1Below.f
  by_cases h1 : n ≤ 0
  · rw [if_pos h1]
    exact ⟨_, _, _, rfl, by omega, fun h => by omega, h0⟩
  · rw [if_neg h1]
    have hn : 0 < n := by omega
    obtain ⟨x, i1, h2, e1, x0, x1, k1⟩ := byte_ex b hb i h h0
    by_cases h3 : n ≤ 256
    · rw [if_pos h3, e1, Option.bind_some, if_neg (by omega)]
      exact ⟨_, _, _, rfl, (tmod_in x0 hn).1, fun _ => (tmod_in x0 hn).2, k1⟩
    · obtain ⟨y, i2, h4, e2, y0, y1, k2⟩ := byte_ex b hb i1 h2 k1
      obtain ⟨z, i3, h5, e3, z0, z1, k3⟩ := byte_ex b hb i2 h4 k2
      obtain ⟨u, i4, h6, e4, u0, u1, k4⟩ := byte_ex b hb i3 h5 k3
      rw [if_neg h3, e1, Option.bind_some]
      dsimp only
      rw [e2, Option.bind_some]
      dsimp only
      rw [e3, Option.bind_some]
      dsimp only
      rw [e4, Option.bind_some]
      dsimp only
      rw [if_neg (by omega)]
      have w1 : wrap64 (x * 16777216) = x * 16777216 := by unfold wrap64; omega
      have w2 : wrap64 (y * 65536) = y * 65536 := by unfold wrap64; omega
      have w3 : wrap64 (z * 256) = z * 256 := by unfold wrap64; omega
      have w4 : wrap64 (x * 16777216 + y * 65536) = x * 16777216 + y * 65536 := by unfold wrap64; omega
      have w5 : wrap64 (x * 16777216 + y * 65536 + z * 256) = x * 16777216 + y * 65536 + z * 256 := by unfold wrap64; omega
      have w6 : wrap64 (x * 16777216 + y * 65536 + z * 256 + u) = x * 16777216 + y * 65536 + z * 256 + u := by unfold wrap64; omega
      rw [w1, w2, w3, w4, w5, w6]
      have hs : 0 ≤ x * 16777216 + y * 65536 + z * 256 + u := by omega
      exact ⟨_, _, _, rfl, (tmod_in hs hn).1, fun _ => (tmod_in hs hn).2, k4⟩
theorem once_ex (b : List Int) (hb : b.length ≤ 1048576) (i h : Int) (h0 : 0 ≤ i) (n : Int) : ∃ (x : Bool) (i' h' : Int), spec_l1Once.f b i h n = some (x, i', h') ∧ 0 ≤ i' := by
  obtain ⟨x, i1, h1, e, _, _, k⟩ := below_ex b hb i h h0 n
  unfold spec_l1Once.f
  rw [e, Option.bind_some]
  exact ⟨_, _, _, rfl, k⟩
theorem rd_mem {l : List Int} {x : Int} (h0 : 0 ≤ x) (h1 : x < (l.length : Int)) : rd l x ∈ l := by
  obtain ⟨j, rfl⟩ : ∃ j : Nat, x = (j : Int) := ⟨x.toNat, by omega⟩
  rw [rd_nat, List.getD_eq_getElem?_getD, List.getElem?_eq_getElem (by omega)]
  exact List.getElem_mem _
theorem pick_ex (b : List Int) (hb : b.length ≤ 1048576) (i h : Int) (h0 : 0 ≤ i) (l : List Int) (hl : 0 < l.length) : ∃ x i' h' : Int, spec_l1PickInt.f b i h l = some (x, i', h') ∧ x ∈ l ∧ 0 ≤ i' := by
  obtain ⟨x, i1, h1, e, x0, x1, k⟩ := below_ex b hb i h h0 (l.length : Int)
  have x1 := x1 (by omega)
  unfold spec_l1PickInt.f
  rw [e, Option.bind_some]
  dsimp only
  rw [if_pos x0, if_pos x1]
  exact ⟨_, _, _, rfl, rd_mem x0 x1, k⟩
theorem u64_nonneg (a : Int) : 0 ≤ IntKind.u64.wrap a := by
  rw [show IntKind.u64.wrap a = a % 18446744073709551616 from by simp [IntKind.wrap, IntKind.bits, IntKind.signed]]
  omega
theorem make_loop (b : List Int) (hb : b.length ≤ 1048576) (a n : Int) (N : Nat) (hN : N ≤ 1000) : ∀ (d j : Nat) (i h : Int) (l : List Int), j + d = N → 0 ≤ i → l.length ≤ j → ∃ v : Int × List Int × Int × Int, Ev (fun k => spec_l3Make.l0 k a (N : Int) (j : Int) b i h n l) v ∧ v.1 = n ∧ v.2.1.length ≤ N ∧ 0 ≤ v.2.2.1 := by
  intro d
  induction d with
  | zero =>
    intro j i h l hj h0 hl
    refine ⟨(n, l, i, h), Ev.step (f := fun _ => some (n, l, i, h)) (fun k => ?_) (Ev.now _), rfl, by dsimp only; omega, h0⟩
    simp only [spec_l3Make.l0]
    rw [if_neg (by omega)]
  | succ d ih =>
    intro j i h l hj h0 hl
    obtain ⟨x, i1, h1, e1, k1⟩ := once_ex b hb i h h0 2
    obtain ⟨y, i2, h2, e2, _, _, k2⟩ := below_ex b hb i1 h1 k1 (shl .i64 1 (IntKind.u64.wrap a))
    cases x with
    | true =>
      obtain ⟨v, hv, hv2⟩ := ih (j + 1) i2 h2 (l ++ [y]) (by omega) k2 (by rw [List.length_append, List.length_singleton]; omega)
      refine ⟨v, Ev.step (fun k => ?_) hv, hv2⟩
      simp only [spec_l3Make.l0]
      rw [if_pos (by omega), e1, Option.bind_some]
      dsimp only
      rw [if_pos rfl, if_pos (u64_nonneg _), e2, Option.bind_some]
      dsimp only
      rw [if_pos (by omega), show wrap64 ((j : Int) + 1) = ((j + 1 : Nat) : Int) from by unfold wrap64; omega]
    | false =>
      obtain ⟨z, i3, h3, e3, _, _, k3⟩ := below_ex b hb i2 h2 k2 (shl .i64 1 (IntKind.u64.wrap a))
      obtain ⟨v, hv, hv2⟩ := ih (j + 1) i3 h3 (l ++ [Go.bits .or .i64 y z]) (by omega) k3 (by rw [List.length_append, List.length_singleton]; omega)
      refine ⟨v, Ev.step (fun k => ?_) hv, hv2⟩
      simp only [spec_l3Make.l0]
      rw [if_pos (by omega), e1, Option.bind_some]
      dsimp only
      rw [if_neg (by decide), if_pos (u64_nonneg _), e2, Option.bind_some]
      dsimp only
      rw [e3, Option.bind_some]
      dsimp only
      rw [if_pos (by omega), show wrap64 ((j : Int) + 1) = ((j + 1 : Nat) : Int) from by unfold wrap64; omega]
theorem make_ex (b : List Int) (hb : b.length ≤ 1048576) (i h : Int) (h0 : 0 ≤ i) (n : Int) (m : Nat) (hm : m < 1000) : ∃ v : Int × List Int × Int × Int, Ev (fun k => spec_l3Make.f k b i h n (m : Int)) v ∧ v.1 = n ∧ v.2.1.length ≤ m ∧ 0 ≤ v.2.2.1 := by
  have w : wrap64 ((m : Int) + 1) = ((m + 1 : Nat) : Int) := by unfold wrap64; omega
  obtain ⟨x, i1, h1, e, x0, x1, k⟩ := below_ex b hb i h h0 ((m + 1 : Nat) : Int)
  have x1 := x1 (by omega)
  obtain ⟨q, rfl⟩ : ∃ q : Nat, x = (q : Int) := ⟨x.toNat, by omega⟩
  obtain ⟨v, hv, e1, e2, e3⟩ := make_loop b hb n n q (by omega) q 0 i1 h1 [] (by omega) k (Nat.le_refl _)
  refine ⟨v, ?_, e1, by omega, e3⟩
  unfold spec_l3Make.f
  rw [w, e]
  exact hv
theorem draw3_ex (b : List Int) (hb : b.length ≤ 1048576) (i h : Int) (h0 : 0 ≤ i) : ∃ v : Int × List Int × Int × Int, Ev (fun k => spec_l3Draw.f k b i h) v ∧ (0 ≤ v.1 ∧ v.1 ≤ 5) ∧ v.2.1.length ≤ 6 ∧ 0 ≤ v.2.2.1 := by
  obtain ⟨x, i1, h1, e, x0, k⟩ := pick_ex b hb i h h0 [0, 1, 2, 3, 3, 4, 4, 5, 5] (by decide)
  obtain ⟨v, hv, e1, e2, e3⟩ := make_ex b hb i1 h1 k x 6 (by decide)
  refine ⟨v, ?_, ?_, e2, e3⟩
  · unfold spec_l3Draw.f
    simp only [e, Option.bind_some]
    exact Ev.bind hv (Ev.now _)
  · rw [e1]
    simp at x0
    omega
theorem bent2_ex (b : List Int) (hb : b.length ≤ 1048576) (i h : Int) (h0 : 0 ≤ i) : ∃ x i' h' : Int, spec_l2Bent.f b i h = some (x, i', h') ∧ 0 ≤ i' := by
  obtain ⟨x, i1, h1, e, k⟩ := once_ex b hb i h h0 8
  unfold spec_l2Bent.f
  rw [e, Option.bind_some]
  dsimp only
  cases x with
  | true =>
    obtain ⟨y, i2, h2, e2, _, k2⟩ := pick_ex b hb i1 h1 k [(-1), 256, 1000, (-9223372036854775808)] (by decide)
    rw [if_pos rfl, e2]
    exact ⟨_, _, _, rfl, k2⟩
  | false =>
    obtain ⟨y, i2, h2, e2, _, _, k2⟩ := below_ex b hb i1 h1 k 256
    rw [if_neg (by decide), e2]
    exact ⟨_, _, _, rfl, k2⟩
theorem bent3_loop (b : List Int) (i h n : Int) : ∀ (d : Nat) (l : List Int), 9 ≤ l.length + d → l.length ≤ 9 → ∃ l' : List Int, Ev (fun k => spec_l3Bent.l0 k b i h n l) (n, l', i, h) ∧ l'.length ≤ 9 := by
  intro d
  induction d with
  | zero =>
    intro l hl h9
    refine ⟨l, Ev.step (f := fun _ => some (n, l, i, h)) (fun k => ?_) (Ev.now _), h9⟩
    simp only [spec_l3Bent.l0]
    rw [if_neg (by omega)]
  | succ d ih =>
    intro l hl h9
    by_cases hlt : l.length < 9
    · obtain ⟨l', hv, h'⟩ := ih (l ++ [0]) (by rw [List.length_append, List.length_singleton]; omega) (by rw [List.length_append, List.length_singleton]; omega)
      refine ⟨l', Ev.step (fun k => ?_) hv, h'⟩
      simp only [spec_l3Bent.l0]
      rw [if_pos (by omega), if_pos (by omega)]
    · refine ⟨l, Ev.step (f := fun _ => some (n, l, i, h)) (fun k => ?_) (Ev.now _), h9⟩
      simp only [spec_l3Bent.l0]
      rw [if_neg (by omega)]
theorem bent3_ex (b : List Int) (hb : b.length ≤ 1048576) (i h : Int) (h0 : 0 ≤ i) : ∃ v : Int × List Int × Int × Int, Ev (fun k => spec_l3Bent.f k b i h) v ∧ v.2.1.length ≤ 9 ∧ 0 ≤ v.2.2.1 ∧ (v.1 ≤ 5 ∨ v.1 = 7) := by
  obtain ⟨⟨n, l, i1, h1⟩, hv, e1, e2, e3⟩ := draw3_ex b hb i h h0
  dsimp only at e1 e2 e3
  obtain ⟨y, i2, h2, ey, y0, y1, k2⟩ := below_ex b hb i1 h1 e3 14
  have go : ∀ w, Ev (fun k => if y = 0 then ((spec_l1PickInt.f b i2 h2 ([(-1), 0, 2, 7] : List Int)).bind fun bt => (some (bt.1, l, bt.2.1, bt.2.2))) else (if y = 1 then ((spec_l2Bent.f b i2 h2).bind fun bt => (if l.length < 17592186044416 then (some (n, (l ++ [bt.1]), bt.2.1, bt.2.2)) else (none))) else (if y = 2 then (spec_l3Bent.l0 k b i2 h2 n l) else (some (n, l, i2, h2))))) w → Ev (fun k => spec_l3Bent.f k b i h) w := by
    intro w hw
    unfold spec_l3Bent.f
    refine Ev.bind hv ?_
    dsimp only
    rw [ey]
    exact hw
  by_cases h3 : y = 0
  · obtain ⟨z, i3, h4, e4, z0, k3⟩ := pick_ex b hb i2 h2 k2 [(-1), 0, 2, 7] (by decide)
    refine ⟨(z, l, i3, h4), go _ (Ev.congr (fun k => ?_) (Ev.now _)), by dsimp only; omega, k3, ?_⟩
    · rw [if_pos h3, e4]; rfl
    · simp at z0; dsimp only; omega
  · by_cases h4 : y = 1
    · obtain ⟨z, i3, h5, e5, k3⟩ := bent2_ex b hb i2 h2 k2
      refine ⟨(n, l ++ [z], i3, h5), go _ (Ev.congr (fun k => ?_) (Ev.now _)), by dsimp only; rw [List.length_append, List.length_singleton]; omega, k3, by dsimp only; omega⟩
      rw [if_neg h3, if_pos h4, e5, Option.bind_some, if_pos (by omega)]
    · by_cases h5 : y = 2
      · obtain ⟨l', hl, h9⟩ := bent3_loop b i2 h2 n 9 l (by omega) (by omega)
        exact ⟨(n, l', i2, h2), go _ (Ev.congr (fun k => by rw [if_neg h3, if_neg h4, if_pos h5]) hl), h9, k2, by dsimp only; omega⟩
      · exact ⟨(n, l, i2, h2), go _ (Ev.congr (fun k => by rw [if_neg h3, if_neg h4, if_neg h5]) (Ev.now _)), by dsimp only; omega, k2, by dsimp only; omega⟩
theorem new_loop (b : List Int) (_hb : b.length ≤ 1048576) : ∀ (d j : Nat) (h : Int), 4000 ≤ j + d → ∃ h' : Int, Ev (fun k => spec_l1New.l0 k b h (j : Int)) (b, 0, h') := by
  intro d
  induction d with
  | zero =>
    intro j h hj
    by_cases h1 : (j : Int) < (b.length : Int)
    · refine ⟨h, Ev.step (f := fun _ => some (b, 0, h)) (fun k => ?_) (Ev.now _)⟩
      simp only [spec_l1New.l0]
      rw [if_pos h1, if_neg (by omega)]
    · refine ⟨h, Ev.step (f := fun _ => some (b, 0, h)) (fun k => ?_) (Ev.now _)⟩
      simp only [spec_l1New.l0]
      rw [if_neg h1]
  | succ d ih =>
    intro j h hj
    by_cases h1 : (j : Int) < (b.length : Int)
    · by_cases h2 : (j : Int) < 4000
      · obtain ⟨h', hv⟩ := ih (j + 1) (Go.bits .and .i64 (wrap64 ((wrap64 ((wrap64 (h * 131)) + (wrap64 (rd b (j : Int))))) + 7)) 1073741823) (by omega)
        refine ⟨h', Ev.step (fun k => ?_) hv⟩
        simp only [spec_l1New.l0]
        rw [if_pos h1, if_pos h2, if_pos (by omega), show wrap64 ((j : Int) + 1) = ((j + 1 : Nat) : Int) from by unfold wrap64; omega]
      · refine ⟨h, Ev.step (f := fun _ => some (b, 0, h)) (fun k => ?_) (Ev.now _)⟩
        simp only [spec_l1New.l0]
        rw [if_pos h1, if_neg h2]
    · refine ⟨h, Ev.step (f := fun _ => some (b, 0, h)) (fun k => ?_) (Ev.now _)⟩
      simp only [spec_l1New.l0]
      rw [if_neg h1]
theorem new_ex (b : List Int) (hb : b.length ≤ 1048576) : ∃ h' : Int, Ev (fun k => spec_l1New.f k b) (b, 0, h') := by
  unfold spec_l1New.f
  exact new_loop b hb 4000 0 _ (by omega)
end Go.Proofs.YtfmpafgmcleogaaGreatDoor.Pu
namespace Go.Proofs.YtfmpafgmcleogaaGreatDoor.Op
open Go.RowKit Go.Proofs.YtfmpafgmcleogaaGreatDoorW.PrintWords
open Go.Deep
def Opens {α : Type} (P : Program) (t : TypeId) (d : Kd α) (wf : α → Prop) : Prop :=
  ∀ {H : Type} {enc : TypeId × Value → H} {w : World} {base : Nat} {spare : Nat → Bool} {held : Bool} {fuel : Nat} {cs : List Value} {x : DataW H × List MemPlace},
    DataW.trod enc P w base spare held fuel t cs = some x → ∃ v : α, d.K w v cs ∧ wf v
theorem Opens.int {P : Program} {t : TypeId} {k : IntKind} (ht : P.underlying t = some (.int k)) : Opens P t (Kd.int k) (fun n => (Lit.int k n).wf = true) := by
  intro H enc w base spare held fuel cs x h
  obtain ⟨n, rfl, _, hw⟩ := DataW.trod_int ht h
  exact ⟨n, rfl, hw⟩
theorem Opens.slice {α : Type} [Inhabited α] {P : Program} {t e : TypeId} {d : Kd α} {wf : α → Prop} (ht : P.underlying t = some (.slice e)) (hc : P.cellsOf e = d.sz) (h : Opens P e d wf) : Opens P t (Kd.slice e d) (fun xs => ∀ x ∈ xs, wf x) := by
  intro H enc w base spare held fuel cs x hx
  rcases open_slice ht hx with ⟨rfl, _⟩ | ⟨a, len, cap, m, n, D, Pl, rfl, hb, hl, hm, hmm, rfl, hel⟩
  · exact ⟨[], ⟨none, 0, rfl, Nat.le_refl _, Kd.C_nil d w⟩, by simp⟩
  · have hlm : len ≤ m := by rw [hmm]; split <;> omega
    obtain ⟨f, hf⟩ := choose_lt (α := α) (n := len) (p := fun i v => ∃ cs', w.cells? base (a.add (i * P.cellsOf e)) (P.cellsOf e) = some cs' ∧ d.K w v cs' ∧ wf v) (fun i hi => by
      obtain ⟨cs', h1, h2⟩ := hel i (by omega)
      obtain ⟨v, hk, hw⟩ := h h2
      exact ⟨v, cs', h1, hk, hw⟩)
    refine ⟨(List.range len).map f, ⟨some a, cap, by simp, by simpa using hl, by simp, by simp only [maxLen] at hm; simp; omega, fun _ => ⟨a, rfl, fun j p hj => ?_⟩⟩, ?_⟩
    · have hjl : j < len := by
        have := (List.getElem?_eq_some_iff.1 hj).1
        simpa using this
      have hp : p = f j := by simpa [hjl] using hj.symm
      subst hp
      obtain ⟨cs', h1, hk, _⟩ := hf j hjl
      obtain ⟨_, hlen, hcell⟩ := World.cells?_some h1
      refine ⟨cs', by rw [hlen, hc], hk, fun i u hu => ?_⟩
      have hi : i < cs'.length := (List.getElem?_eq_some_iff.1 hu).1
      have h2 := hcell i (by omega)
      rw [Go.Deep.add_add] at h2
      rw [← hc, h2, hu]
    · intro y hy
      obtain ⟨j, hj, rfl⟩ := List.mem_map.1 hy
      obtain ⟨_, _, _, hw⟩ := hf j (List.mem_range.1 hj)
      exact hw
end Go.Proofs.YtfmpafgmcleogaaGreatDoor.Op
