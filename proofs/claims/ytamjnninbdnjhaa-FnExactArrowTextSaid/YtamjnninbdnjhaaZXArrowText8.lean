/- What the law needs of the program's functions as plain functions, of the proofs that their calls answer so, and of plain laws: gathered by a program of this place (pack.py) out of its printed texts. No condition beyond what each statement says. -/
import Derived.Test.YtamjnninbdnjhaaZXArrowText1
import Derived.Laws.BitsLemmas
import Derived.RowKit
import Derived.Test.YtamjnninbdnjhaaZXArrowText2
import Derived.Test.YtamjnninbdnjhaaZXArrowText4
import Derived.Test.YtamjnninbdnjhaaZXArrowText5
import Derived.Test.YtamjnninbdnjhaaZXArrowText3
import Derived.Test.YtamjnninbdnjhaaZXArrowText6
import Derived.Test.YtamjnninbdnjhaaZXArrowText7
import Derived.Deep.Slices
import Derived.WideShapes
import Derived.ProofKit
import Derived.SizedLaws
namespace Go.Proofs.Ytamjnninbdnjhaa.Pu
/-- all elements of a are in b -/
def sub (a b : Nat) : Bool := a &&& b == a
theorem sub_iff {a b : Nat} : sub a b = true ↔ ∀ i, a.testBit i = true → b.testBit i = true := by
  unfold sub
  rw [beq_iff_eq]
  constructor
  · intro h i hi
    rw [← h, Nat.testBit_and] at hi
    exact (Bool.and_eq_true_iff.1 hi).2
  · intro h
    apply Nat.eq_of_testBit_eq
    intro i
    rw [Nat.testBit_and]
    cases ha : a.testBit i with
    | false => rfl
    | true => rw [h i ha]; rfl
theorem sub_le {a b : Nat} (h : sub a b = true) : a ≤ b := by
  have : a &&& b = a := by simpa [sub] using h
  rw [← this]; exact Nat.and_le_right
/-- the elements of a that are not in b -/
def diff (a b : Nat) : Nat := a ^^^ (a &&& b)
theorem testBit_diff (a b i : Nat) : (diff a b).testBit i = (a.testBit i && !b.testBit i) := by
  unfold diff
  rw [Nat.testBit_xor, Nat.testBit_and]
  cases a.testBit i <;> cases b.testBit i <;> rfl
theorem diff_eq_zero {a b : Nat} : diff a b = 0 ↔ sub a b = true := by
  constructor
  · intro h
    refine sub_iff.2 fun i hi => ?_
    have := testBit_diff a b i
    rw [h, hi] at this
    simpa using this
  · intro h
    apply Nat.eq_of_testBit_eq
    intro i
    rw [testBit_diff, Nat.zero_testBit]
    cases ha : a.testBit i with
    | false => rfl
    | true => rw [sub_iff.1 h i ha]; rfl
abbrev Rules := List (Nat × Nat)
/-- one step: the set with the conclusions of all rules whose premises it has -/
def step (R : Rules) (s : Nat) : Nat := R.foldl (fun o r => if sub r.1 s then o ||| r.2 else o) s
/-- the number whose bit i is f i, for i below k -/
def ofBits (f : Nat → Bool) : Nat → Nat
  | 0 => 0
  | k + 1 => ofBits f k ||| (if f k then 2 ^ k else 0)
theorem ofBits_lt (f : Nat → Bool) : ∀ k, ofBits f k < 2 ^ k
  | 0 => by simp [ofBits]
  | k + 1 => by
    have h := ofBits_lt f k
    have h2 : 2 ^ k < 2 ^ (k + 1) := Nat.pow_lt_pow_right (by decide) (by omega)
    unfold ofBits
    refine Nat.or_lt_two_pow (Nat.lt_trans h h2) ?_
    split
    · exact h2
    · exact Nat.two_pow_pos _
theorem testBit_ofBits (f : Nat → Bool) (i : Nat) : ∀ k, (ofBits f k).testBit i = (decide (i < k) && f i)
  | 0 => by simp [ofBits]
  | k + 1 => by
    unfold ofBits
    rw [Nat.testBit_or, testBit_ofBits f i k]
    by_cases h : i < k
    · have hk : ¬ (k = i) := by omega
      have : (if f k = true then 2 ^ k else 0 : Nat).testBit i = false := by
        split
        · rw [Nat.testBit_two_pow]; simp [hk]
        · simp
      simp [this, h, show i < k + 1 from by omega]
    · by_cases e : i = k
      · subst e
        cases hf : f i <;> simp
      · have : (if f k = true then 2 ^ k else 0 : Nat).testBit i = false := by
          split
          · rw [Nat.testBit_two_pow]; simp [show ¬ k = i from fun h => e h.symm]
          · simp
        simp [this, h, show ¬ i < k + 1 from by omega]
theorem lt_two_pow_iff {a k : Nat} : a < 2 ^ k ↔ ∀ i, k ≤ i → a.testBit i = false := by
  constructor
  · intro h i hi
    exact Nat.testBit_lt_two_pow (Nat.lt_of_lt_of_le h (Nat.pow_le_pow_right (by decide) hi))
  · intro h
    exact Nat.lt_pow_two_of_testBit a h
/-- i, i + 1, .. , n - 1 -/
def foldIdx {σ : Type} (f : Nat → σ → σ) (i n : Nat) (s : σ) : σ := (List.range' i (n - i)).foldl (fun s j => f j s) s
theorem foldIdx_end {σ : Type} (f : Nat → σ → σ) {i n : Nat} (h : n ≤ i) (s : σ) : foldIdx f i n s = s := by
  unfold foldIdx; rw [Nat.sub_eq_zero_of_le h]; rfl
theorem foldIdx_step {σ : Type} (f : Nat → σ → σ) {i n : Nat} (h : i < n) (s : σ) : foldIdx f i n s = foldIdx f (i + 1) n (f i s) := by
  unfold foldIdx
  obtain ⟨d, rfl⟩ : ∃ d, n = i + 1 + d := ⟨n - (i + 1), by omega⟩
  rw [show i + 1 + d - i = d + 1 from by omega, show i + 1 + d - (i + 1) = d from by omega, List.range'_succ, List.foldl_cons]
theorem foldIdx_last {σ : Type} (f : Nat → σ → σ) {i n : Nat} (h : i ≤ n) (s : σ) : foldIdx f i (n + 1) s = f n (foldIdx f i n s) := by
  unfold foldIdx
  rw [show n + 1 - i = (n - i) + 1 from by omega, List.range'_concat, List.foldl_append]
  simp only [List.foldl_cons, List.foldl_nil]
  congr 1
  omega
theorem diff_add : ∀ (a b : Nat), diff a b + (a &&& b) = a := by
  intro a
  induction a using Nat.strongRecOn with
  | _ a ih =>
    intro b
    unfold diff at *
    rcases Nat.eq_zero_or_pos a with h0 | h0
    · subst h0; simp
    · have h := ih (a / 2) (by omega) (b / 2)
      have e1 : (a &&& b) / 2 = a / 2 &&& b / 2 := Nat.and_div_two
      have e2 : (a ^^^ (a &&& b)) / 2 = a / 2 ^^^ (a &&& b) / 2 := Nat.xor_div_two
      rw [e1] at e2
      rw [← e2, ← e1] at h
      have m1 : (a &&& b) % 2 = 1 ↔ a % 2 = 1 ∧ b % 2 = 1 := Nat.and_mod_two_eq_one
      have m2 : (a ^^^ (a &&& b)) % 2 = 1 ↔ ¬ (a % 2 = 1 ↔ (a &&& b) % 2 = 1) := Nat.xor_mod_two_eq_one
      omega
theorem diff_eq_sub (a b : Nat) : diff a b = a - (a &&& b) := by have := diff_add a b; omega
end Go.Proofs.Ytamjnninbdnjhaa.Pu
namespace Go.Proofs.Ytamjnninbdnjhaa.Pu
open Go.RowKit Go.Proofs.YtamjnninbdnjhaaW.PrintWords
theorem wraps_i64 (n : Int) (h₀ : 0 ≤ n) (h₁ : n < 2 ^ 63) : IntKind.i64.wrap n = n := by rw [IntKind.wrap_i64]; omega
theorem and_nat {a b : Nat} (ha : a < 2 ^ 63) (hb : b < 2 ^ 63) : Go.bits .and .i64 (a : Int) (b : Int) = ((a &&& b : Nat) : Int) := (bits_nat .i64 63 (by decide) wraps_i64 a b ha hb).1
theorem or_nat {a b : Nat} (ha : a < 2 ^ 63) (hb : b < 2 ^ 63) : Go.bits .or .i64 (a : Int) (b : Int) = ((a ||| b : Nat) : Int) := (bits_nat .i64 63 (by decide) wraps_i64 a b ha hb).2
theorem diff_le (a b : Nat) : diff a b ≤ a := by
  refine sub_le (sub_iff.2 fun i hi => ?_)
  rw [testBit_diff] at hi
  exact (Bool.and_eq_true_iff.1 hi).1
theorem bits_andNot_nat (k : IntKind) (j : Nat) (hj : j ≤ k.bits) (hk : ∀ n : Int, 0 ≤ n → n < 2 ^ j → k.wrap n = n) (a b : Nat) (ha : a < 2 ^ j) (hb : b < 2 ^ j) : bits .andNot k a b = ((diff a b : Nat) : Int) := by
  have hp : 2 ^ j ≤ 2 ^ k.bits := Nat.pow_le_pow_right (by decide) hj
  have ha' : a % 2 ^ k.bits = a := Nat.mod_eq_of_lt (Nat.lt_of_lt_of_le ha hp)
  have hb' : b % 2 ^ k.bits = b := Nat.mod_eq_of_lt (Nat.lt_of_lt_of_le hb hp)
  have cast : ∀ n : Nat, n < 2 ^ j → ((n : Nat) : Int) < 2 ^ j := fun n h => by exact_mod_cast h
  have e : (BitVec.ofNat k.bits a &&& ~~~(BitVec.ofNat k.bits b)).toNat = diff a b := by
    apply Nat.eq_of_testBit_eq
    intro i
    rw [testBit_diff, BitVec.toNat_and, Nat.testBit_and, BitVec.toNat_ofNat, ha']
    by_cases hi : i < k.bits
    · rw [show ((~~~(BitVec.ofNat k.bits b)).toNat).testBit i = (~~~(BitVec.ofNat k.bits b)).getLsbD i from rfl, BitVec.getLsbD_not]
      simp [hi, BitVec.getLsbD, hb']
    · rw [Nat.testBit_lt_two_pow (x := a) (i := i) (Nat.lt_of_lt_of_le ha (Nat.pow_le_pow_right (by decide) (by omega)))]
      simp
  simp only [bits, BitVec.ofInt_natCast, e]
  exact hk _ (Int.natCast_nonneg _) (cast _ (Nat.lt_of_le_of_lt (diff_le a b) ha))
theorem andNot_nat {a b : Nat} (ha : a < 2 ^ 63) (hb : b < 2 ^ 63) : Go.bits .andNot .i64 (a : Int) (b : Int) = ((diff a b : Nat) : Int) := bits_andNot_nat .i64 63 (by decide) wraps_i64 a b ha hb
/-- a set: a number from 0 to 2^n - 1, n from 0 to 8 -/
def isSetB (n s : Int) : Bool := decide (0 ≤ n ∧ n ≤ 8 ∧ 0 ≤ s ∧ s < 2 ^ n.toNat)
def isAny (s : Int) : Bool := decide (0 ≤ s ∧ s < 256)
theorem isSetB_8 (s : Int) : isSetB 8 s = isAny s := by
  unfold isSetB isAny
  rw [show (8 : Int).toNat = 8 from rfl]
  have : (2 : Int) ^ 8 = 256 := by decide
  rw [this]
  simp
theorem isAny_nat {s : Int} (h : isAny s = true) : ∃ a : Nat, a < 256 ∧ s = (a : Int) := by
  unfold isAny at h
  have := of_decide_eq_true h
  exact ⟨s.toNat, by omega, by omega⟩
theorem isSetB_nat {n s : Int} (h : isSetB n s = true) : ∃ m a : Nat, m ≤ 8 ∧ n = (m : Int) ∧ a < 2 ^ m ∧ s = (a : Int) := by
  unfold isSetB at h
  obtain ⟨h1, h2, h3, h4⟩ := of_decide_eq_true h
  refine ⟨n.toNat, s.toNat, by omega, by omega, ?_, by omega⟩
  have : ((s.toNat : Nat) : Int) < ((2 ^ n.toNat : Nat) : Int) := by rw [Int.toNat_of_nonneg h3]; simpa using h4
  exact_mod_cast this
theorem isSetB_mk {m a : Nat} (hm : m ≤ 8) (ha : a < 2 ^ m) : isSetB (m : Int) (a : Int) = true := by
  unfold isSetB
  have : ((a : Nat) : Int) < ((2 ^ m : Nat) : Int) := by exact_mod_cast ha
  rw [decide_eq_true_iff]
  refine ⟨by omega, by omega, by omega, ?_⟩
  simpa using this
theorem upper_val (n : Int) (h0 : 0 ≤ n) (h1 : n ≤ 8) : wrap64 ((shl .i64 1 n) - 1) = 2 ^ n.toNat - 1 := by
  have h : n = 0 ∨ n = 1 ∨ n = 2 ∨ n = 3 ∨ n = 4 ∨ n = 5 ∨ n = 6 ∨ n = 7 ∨ n = 8 := by omega
  rcases h with rfl | rfl | rfl | rfl | rfl | rfl | rfl | rfl | rfl <;> decide +kernel
theorem wrapU_val (n : Int) (h0 : 0 ≤ n) (h1 : n ≤ 8) : IntKind.u64.wrap n = n := by
  have h : n = 0 ∨ n = 1 ∨ n = 2 ∨ n = 3 ∨ n = 4 ∨ n = 5 ∨ n = 6 ∨ n = 7 ∨ n = 8 := by omega
  rcases h with rfl | rfl | rfl | rfl | rfl | rfl | rfl | rfl | rfl <;> decide +kernel
end Go.Proofs.Ytamjnninbdnjhaa.Pu
namespace Go.Proofs.Ytamjnninbdnjhaa.Pu
open Go.RowKit Go.Proofs.YtamjnninbdnjhaaW.PrintWords Go.Proofs.YtamjnninbdnjhaaW.PrintLast Go.Proofs.YtamjnninbdnjhaaW.PrintMore Go.Proofs.Ytamjnninbdnjhaa.Pr
theorem wrap_succ {i n : Nat} (h : i < n) (hn : n ≤ 9223372036854775807) : wrap64 ((i : Int) + 1) = ((i + 1 : Nat) : Int) := by unfold wrap64; omega
theorem drop_nil {α : Type} {l : List α} {i : Nat} (h : l.drop i = []) : l.length ≤ i := by
  have := congrArg List.length h
  simp at this; omega
theorem drop_cons {α : Type} {l rest : List α} {i : Nat} {x d : α} (h : l.drop i = x :: rest) : i < l.length ∧ l.getD i d = x ∧ l.drop (i + 1) = rest := by
  have hi : i < l.length := by
    rcases Nat.lt_or_ge i l.length with h' | h'
    · exact h'
    · rw [List.drop_of_length_le h'] at h; cases h
  rw [List.drop_eq_getElem_cons hi] at h
  injection h with h1 h2
  exact ⟨hi, by rw [List.getD_eq_getElem?_getD, List.getElem?_eq_getElem hi]; exact h1, h2⟩
theorem rd_nat (l : List Int) (i : Nat) : rd l (i : Int) = l.getD i 0 := by unfold rd; rw [Int.toNat_natCast]
end Go.Proofs.Ytamjnninbdnjhaa.Pu
namespace Go.Proofs.Ytamjnninbdnjhaa.Pu
open Go.RowKit Go.Proofs.YtamjnninbdnjhaaW.PrintWords Go.Proofs.YtamjnninbdnjhaaW.PrintLast Go.Proofs.YtamjnninbdnjhaaW.PrintMore Go.Proofs.Ytamjnninbdnjhaa.Pr
theorem l1In_val (a b c : Int) : spec_l1In.f a b c = some (decide (b ≤ a ∧ a ≤ c)) := by
  unfold spec_l1In.f
  by_cases h : b ≤ a
  · rw [if_pos h]; simp [h]
  · rw [if_neg h]; simp [h]
theorem within_val (a b c : Int) : impl_within.f a b c = some (decide (b ≤ a ∧ a ≤ c)) := by
  unfold impl_within.f
  by_cases h : b ≤ a
  · rw [if_pos h]; simp [h]
  · rw [if_neg h]; simp [h]
theorem setB_of {n s : Int} (h : 0 ≤ n ∧ n ≤ 8) : decide (0 ≤ s ∧ s ≤ 2 ^ n.toNat - 1) = isSetB n s := by
  unfold isSetB
  generalize (2 : Int) ^ n.toNat = q
  rw [decide_eq_decide]
  omega
theorem setB_not {n s : Int} (h : ¬ (0 ≤ n ∧ n ≤ 8)) : isSetB n s = false := by
  unfold isSetB
  rw [decide_eq_false_iff_not]
  omega
theorem specSet_val (n s : Int) : spec_IsSet.f n s = some (isSetB n s) := by
  unfold spec_IsSet.f
  rw [l1In_val, Option.bind_some]
  by_cases h : 0 ≤ n ∧ n ≤ 8
  · rw [if_pos (decide_eq_true h), wrapU_val n h.1 h.2, if_pos h.1, upper_val n h.1 h.2, l1In_val, Option.bind_some, setB_of h]
  · rw [if_neg (by simpa using h), setB_not h]
theorem set_val (n s : Int) : impl_IsSet.f n s = some (isSetB n s) := by
  unfold impl_IsSet.f
  rw [within_val, Option.bind_some]
  by_cases h : 0 ≤ n ∧ n ≤ 8
  · rw [if_pos (decide_eq_true h), if_pos h.1, upper_val n h.1 h.2, within_val, Option.bind_some, setB_of h]
  · rw [if_neg (by simpa using h), setB_not h]
theorem any_val (s : Int) : impl_isAnySet.f s = some (isAny s) := by
  unfold impl_isAnySet.f
  rw [set_val, Option.bind_some, isSetB_8]
end Go.Proofs.Ytamjnninbdnjhaa.Pu
namespace Go.Proofs.Ytamjnninbdnjhaa.Pu
open Go.RowKit Go.Proofs.YtamjnninbdnjhaaW.PrintWords Go.Proofs.YtamjnninbdnjhaaW.PrintLast Go.Proofs.YtamjnninbdnjhaaW.PrintMore Go.Proofs.Ytamjnninbdnjhaa.Pr
theorem ev_fold {α β : Type} {g : Nat → α → Int → Option β} (f : Nat → α → α) (inv : Nat → α → Prop) {res : β} {N : Nat}
    (hs : ∀ i a, i < N → inv i a → Ev (fun k => g k (f i a) ((i + 1 : Nat) : Int)) res → Ev (fun k => g k a (i : Int)) res)
    (hp : ∀ i a, i < N → inv i a → inv (i + 1) (f i a)) :
    ∀ (d i : Nat) (a : α), i + d = N → inv i a → (∀ b, b = foldIdx f i N a → inv N b → Ev (fun k => g k b (N : Int)) res) → Ev (fun k => g k a (i : Int)) res := by
  intro d
  induction d with
  | zero =>
    intro i a h hi he
    obtain rfl : i = N := by omega
    exact he a (foldIdx_end f (Nat.le_refl _) a).symm hi
  | succ d ih =>
    intro i a h hi he
    refine hs i a (by omega) hi (ih (i + 1) (f i a) (by omega) (hp i a (by omega) hi) fun b hb hb' => he b ?_ hb')
    rw [hb, ← foldIdx_step f (by omega)]
theorem fold_inv {α : Type} (f : Nat → α → α) (inv : Nat → α → Prop) {N : Nat} (hp : ∀ i a, i < N → inv i a → inv (i + 1) (f i a)) : ∀ (d i : Nat) (a : α), i + d = N → inv i a → inv N (foldIdx f i N a) := by
  intro d
  induction d with
  | zero =>
    intro i a h hi
    obtain rfl : i = N := by omega
    rw [foldIdx_end f (Nat.le_refl _)]
    exact hi
  | succ d ih =>
    intro i a h hi
    rw [foldIdx_step f (by omega)]
    exact ih (i + 1) (f i a) (by omega) (hp i a (by omega) hi)
def bitStep (b : Nat → Bool) (i a : Nat) : Nat := if b i = true then a ||| 2 ^ i else a
theorem fold_bits (b : Nat → Bool) : ∀ n, foldIdx (bitStep b) 0 n 0 = ofBits b n
  | 0 => foldIdx_end _ (Nat.le_refl _) _
  | n + 1 => by
    rw [foldIdx_last _ (Nat.zero_le _), fold_bits b n, ofBits, bitStep]
    cases b n <;> simp
theorem bitStep_lt {b : Nat → Bool} {i a n : Nat} (hi : i < n) (ha : a < 2 ^ n) : bitStep b i a < 2 ^ n := by
  unfold bitStep
  split
  · exact Nat.or_lt_two_pow ha (Nat.pow_lt_pow_right (by decide) hi)
  · exact ha
theorem shl_one (e : Nat) (he : e ≤ 8) : shl .i64 1 (e : Int) = ((2 ^ e : Nat) : Int) := by
  have h : e = 0 ∨ e = 1 ∨ e = 2 ∨ e = 3 ∨ e = 4 ∨ e = 5 ∨ e = 6 ∨ e = 7 ∨ e = 8 := by omega
  rcases h with rfl | rfl | rfl | rfl | rfl | rfl | rfl | rfl | rfl <;> decide +kernel
theorem shl_zero (e : Nat) (he : e ≤ 8) : shl .i64 0 (e : Int) = 0 := by
  have h : e = 0 ∨ e = 1 ∨ e = 2 ∨ e = 3 ∨ e = 4 ∨ e = 5 ∨ e = 6 ∨ e = 7 ∨ e = 8 := by omega
  rcases h with rfl | rfl | rfl | rfl | rfl | rfl | rfl | rfl | rfl <;> decide +kernel
theorem pow_256 {n : Nat} (h : n ≤ 8) : 2 ^ n ≤ 256 := show 2 ^ n ≤ 2 ^ 8 from Nat.pow_le_pow_right (by decide) h
theorem lt_256 {n a : Nat} (h : n ≤ 8) (ha : a < 2 ^ n) : a < 256 := Nat.lt_of_lt_of_le ha (pow_256 h)
theorem or_bit {a e : Nat} (ha : a < 256) (he : e ≤ 7) : Go.bits .or .i64 (a : Int) (shl .i64 1 (e : Int)) = ((a ||| 2 ^ e : Nat) : Int) := by
  have h8 : 2 ^ e ≤ 2 ^ 7 := Nat.pow_le_pow_right (by decide) he
  rw [shl_one e (by omega)]
  exact or_nat (by omega) (by omega)
/-- all elements of s are in t, as Go's & tells it -/
theorem and_is {a b : Nat} (ha : a < 256) (hb : b < 256) : (Go.bits .and .i64 (b : Int) (a : Int) = (a : Int)) ↔ sub a b = true := by
  rw [and_nat (by omega) (by omega), Nat.and_comm, Int.natCast_inj]
  unfold sub
  simp
theorem andNot_is {a b : Nat} (ha : a < 256) (hb : b < 256) : (Go.bits .andNot .i64 (a : Int) (b : Int) = 0) ↔ sub a b = true := by
  rw [andNot_nat (by omega) (by omega), ← diff_eq_zero]
  omega
def cast (R : List Nat) : List Int := R.map fun (x : Nat) => (x : Int)
theorem cast_length (R : List Nat) : (cast R).length = R.length := List.length_map ..
theorem rd_cast (R : List Nat) (i : Nat) : rd (cast R) (i : Int) = ((R.getD i 0 : Nat) : Int) := by
  rw [rd_nat]
  unfold cast
  rw [List.getD_eq_getElem?_getD, List.getD_eq_getElem?_getD, List.getElem?_map]
  cases R[i]? <;> rfl
theorem cast_of {l : List Int} (h : ∀ x ∈ l, 0 ≤ x) : l = cast (l.map Int.toNat) := by
  unfold cast
  rw [List.map_map]
  conv => lhs; rw [← List.map_id l]
  refine List.map_congr_left fun x hx => ?_
  have := h x hx
  simp [Int.toNat_of_nonneg this]
end Go.Proofs.Ytamjnninbdnjhaa.Pu
namespace Go.Proofs.Ytamjnninbdnjhaa.Pu
def full (n : Nat) : Nat := 2 ^ n - 1
theorem testBit_full (n i : Nat) : (full n).testBit i = decide (i < n) := Nat.testBit_two_pow_sub_one ..
theorem full_lt (n : Nat) : full n < 2 ^ n := by unfold full; have := Nat.two_pow_pos n; omega
def row (rows : List Nat) (g : Nat) : Nat := rows.getD g 0
def col (rows : List Nat) (m : Nat) : Nat := ofBits (fun g => (row rows g).testBit m) rows.length
def int (n : Nat) (rows : List Nat) (o : Nat) : Nat := ofBits (fun m => (List.range rows.length).all fun g => !o.testBit g || (row rows g).testBit m) n
theorem sub_full {n a : Nat} (h : a < 2 ^ n) : sub a (full n) = true := sub_iff.2 fun i hi => by
  rw [testBit_full, decide_eq_true_iff]
  rcases Nat.lt_or_ge i n with h' | h'
  · exact h'
  · rw [lt_two_pow_iff.1 h i h'] at hi; cases hi
end Go.Proofs.Ytamjnninbdnjhaa.Pu
namespace Go.Proofs.Ytamjnninbdnjhaa.Pu
open Go.RowKit Go.Proofs.YtamjnninbdnjhaaW.PrintWords Go.Proofs.YtamjnninbdnjhaaW.PrintLast Go.Proofs.YtamjnninbdnjhaaW.PrintMore Go.Proofs.Ytamjnninbdnjhaa.Pr
def fullV (n : Int) : Int := if 0 ≤ n ∧ n ≤ 8 then 2 ^ n.toNat - 1 else 0
theorem fullS_val (n : Int) : spec_FullSet.f n = some (fullV n) := by
  unfold spec_FullSet.f fullV
  rw [l1In_val, Option.bind_some]
  by_cases h : 0 ≤ n ∧ n ≤ 8
  · rw [if_pos h]
    first
      | rw [if_pos (decide_eq_true h), wrapU_val n h.1 h.2, if_pos h.1, upper_val n h.1 h.2]
      | rw [if_neg (by simpa using h), wrapU_val n h.1 h.2, if_pos h.1, upper_val n h.1 h.2]
  · rw [if_neg h]
    first
      | rw [if_neg (by simpa using h)]
      | rw [if_pos (by simpa using h)]
theorem fullV_nat {m : Nat} (h : m ≤ 8) : fullV (m : Int) = ((2 ^ m - 1 : Nat) : Int) := by
  unfold fullV
  rw [if_pos (by omega), Int.toNat_natCast]
  have hp := Nat.two_pow_pos m
  rw [show ((2 ^ m - 1 : Nat) : Int) = ((2 ^ m : Nat) : Int) - 1 from by omega, Int.natCast_pow]
  rfl
end Go.Proofs.Ytamjnninbdnjhaa.Pu
namespace Go.Proofs.Ytamjnninbdnjhaa.Pu
open Go.RowKit Go.Proofs.YtamjnninbdnjhaaW.PrintWords Go.Proofs.YtamjnninbdnjhaaW.PrintLast Go.Proofs.YtamjnninbdnjhaaW.PrintMore Go.Proofs.Ytamjnninbdnjhaa.Pr
theorem shr_nat (a e : Nat) (he : e ≤ 64) : shr .i64 (a : Int) (e : Int) = ((a / 2 ^ e : Nat) : Int) := by
  unfold shr
  rw [Int.toNat_natCast, show (IntKind.i64).bits = 64 from rfl, Nat.min_eq_left he]
  simp
theorem bit_val (a e : Nat) (ha : a < 2 ^ 63) (he : e ≤ 64) : (Go.bits .and .i64 (shr .i64 (a : Int) (e : Int)) 1 == 1) = a.testBit e := by
  rw [shr_nat a e he]
  have h1 : a / 2 ^ e < 2 ^ 63 := Nat.lt_of_le_of_lt (Nat.div_le_self _ _) ha
  have h2 := and_nat h1 (show 1 < 2 ^ 63 by decide)
  rw [show ((1 : Nat) : Int) = 1 from rfl] at h2
  rw [h2, Nat.and_one_is_mod, Nat.testBit_eq_decide_div_mod_eq, Bool.eq_iff_iff, beq_iff_eq, decide_eq_true_iff]
  omega
def hasV (s e : Int) : Bool := isAny s && (decide (0 ≤ e ∧ e ≤ 7) && s.toNat.testBit e.toNat)
theorem wrapU_small (e : Int) (h0 : 0 ≤ e) (h1 : e ≤ 64) : IntKind.u64.wrap e = e := by
  simp [IntKind.wrap, IntKind.bits, IntKind.signed]
  omega
theorem l2Has_val (a e : Nat) (ha : a < 2 ^ 63) (he : e ≤ 64) : spec_l2Has.f (a : Int) (e : Int) = some (a.testBit e) := by
  unfold spec_l2Has.f
  rw [wrapU_small _ (by omega) (by omega), if_pos (by omega), bit_val a e ha he]
theorem hasI_val (s e : Int) : impl_HasElement.f s e = some (hasV s e) := by
  unfold impl_HasElement.f hasV
  rw [any_val, Option.bind_some]
  cases hs : isAny s with
  | false => rfl
  | true =>
    obtain ⟨a, ha, rfl⟩ := isAny_nat hs
    rw [if_pos rfl, within_val, Option.bind_some]
    by_cases he : 0 ≤ e ∧ e ≤ 7
    · obtain ⟨n, rfl⟩ : ∃ n : Nat, e = (n : Int) := ⟨e.toNat, by omega⟩
      rw [if_pos (decide_eq_true he), if_pos he.1, bit_val a n (by omega) (by omega), decide_eq_true he]
      simp
    · rw [if_neg (by simpa using he), decide_eq_false he]
      rfl
end Go.Proofs.Ytamjnninbdnjhaa.Pu
namespace Go.Proofs.Ytamjnninbdnjhaa.Pu
open Go.RowKit Go.Proofs.YtamjnninbdnjhaaW.PrintWords Go.Proofs.YtamjnninbdnjhaaW.PrintLast Go.Proofs.YtamjnninbdnjhaaW.PrintMore Go.Proofs.Ytamjnninbdnjhaa.Pr
theorem bit01 (a e : Nat) (ha : a < 2 ^ 63) (he : e ≤ 64) : Go.bits .and .i64 (shr .i64 (a : Int) (e : Int)) 1 = if a.testBit e = true then 1 else 0 := by
  have h := bit_val a e ha he
  cases hb : a.testBit e with
  | true => rw [hb, beq_iff_eq] at h; rw [h]; rfl
  | false =>
    rw [shr_nat a e he]
    have h1 : a / 2 ^ e < 2 ^ 63 := Nat.lt_of_le_of_lt (Nat.div_le_self _ _) ha
    have h2 := and_nat h1 (show 1 < 2 ^ 63 by decide)
    rw [show ((1 : Nat) : Int) = 1 from rfl] at h2
    rw [Nat.testBit_eq_decide_div_mod_eq, decide_eq_false_iff_not] at hb
    rw [h2, Nat.and_one_is_mod, show a / 2 ^ e % 2 = 0 from by omega]
    rfl
theorem or_shl {a e : Nat} {b : Bool} (ha : a < 256) (he : e ≤ 7) : Go.bits .or .i64 (a : Int) (shl .i64 (if b = true then 1 else 0) (e : Int)) = ((if b = true then a ||| 2 ^ e else a : Nat) : Int) := by
  cases b with
  | true => rw [if_pos rfl, if_pos rfl]; exact or_bit ha he
  | false =>
    rw [if_neg (by decide), if_neg (by decide), shl_zero e (by omega)]
    have := or_nat (a := a) (b := 0) (by omega) (by decide)
    rw [Nat.or_zero] at this
    exact this
end Go.Proofs.Ytamjnninbdnjhaa.Pu
namespace Go.Proofs.Ytamjnninbdnjhaa.Pu
open Go.RowKit Go.Proofs.YtamjnninbdnjhaaW.PrintWords Go.Proofs.YtamjnninbdnjhaaW.PrintLast Go.Proofs.YtamjnninbdnjhaaW.PrintMore Go.Proofs.Ytamjnninbdnjhaa.Pr
theorem set_midC {α : Type} (a b : List α) (x y : α) (n : Nat) (h : a.length = n) : (a ++ x :: b).set n y = a ++ y :: b := by
  subst h
  rw [List.set_append]
  simp
theorem szInt_more (l : List Int) (hl : l.length ≤ 9223372036854775807) (a : Int) (h0 : 0 ≤ a) (ha : a ≤ 1048576) : ∃ m : Int, laws_szIntS.f l a = some m ∧ (0 ≤ m → l.length ≤ 1048576) := by
  unfold laws_szIntS.f
  have hw : wrap64 (a - (l.length : Int)) = a - (l.length : Int) := by unfold wrap64; omega
  rw [hw]
  by_cases h : (a - (l.length : Int)) < 0
  · exact ⟨-1, by rw [if_pos h], fun h => absurd h (by decide)⟩
  · exact ⟨_, by rw [if_neg h], fun _ => by omega⟩
theorem szC_val (n : Int) (l : List Int) (hl : l.length ≤ 9223372036854775807) : ∃ m : Int, laws_szContext.f n l 1048576 = some m ∧ (0 ≤ m → l.length ≤ 1048576) := by
  obtain ⟨m, hm, hm2⟩ := szInt_more l hl 1048576 (by decide) (by decide)
  unfold laws_szContext.f
  rw [hm, Option.bind_some]
  by_cases h : m < 0
  · exact ⟨-1, by rw [if_pos h], fun h => absurd h (by decide)⟩
  · exact ⟨m, by rw [if_neg h], hm2⟩
theorem toInt_loop (l : List Int) (hl : l.length ≤ 1048576) : ∀ (rest : List Int) (i : Nat), l.drop i = rest →
    Ev (fun k => laws_toIntS.l0 k l (l.take i ++ List.replicate rest.length 0) (i : Int)) l := by
  intro rest
  induction rest with
  | nil =>
    intro i h
    have := drop_nil h
    refine Ev.step (f := fun _ => some l) (fun k => ?_) (Ev.now _)
    simp only [laws_toIntS.l0]
    rw [if_neg (by omega), List.take_of_length_le this]
    simp
  | cons x rest ih =>
    intro i h
    obtain ⟨hi, hx, hd⟩ := drop_cons (d := 0) h
    have hr : rest.length + (i + 1) = l.length := by
      have := congrArg List.length h
      simp at this
      omega
    refine Ev.step (fun k => ?_) (ih (i + 1) hd)
    simp only [laws_toIntS.l0]
    rw [if_pos (by omega), if_pos (by omega), if_pos (by simp; omega), rd_nat, hx, wrap_succ hi (by omega), Int.toNat_natCast, List.length_cons, List.replicate_succ, set_midC _ _ _ _ _ (by rw [List.length_take]; omega)]
    rw [show l.take (i + 1) = l.take i ++ [x] from by rw [List.take_succ_eq_append_getElem hi]; congr 2; rw [← hx, List.getD_eq_getElem?_getD, List.getElem?_eq_getElem hi]; rfl]
    simp
theorem toC_val (n : Int) (l : List Int) (hl : l.length ≤ 1048576) : Ev (fun k => laws_toContext.f k n l) (n, l) := by
  unfold laws_toContext.f laws_toIntS.f
  have h1 : Ev (fun k => if 0 ≤ (l.length : Int) then (if ((l.length : Int) : Int).toNat ≤ 35184372088832 then (laws_toIntS.l0 k l (List.replicate ((l.length : Int) : Int).toNat 0) 0) else (none)) else (none)) l := by
    refine Ev.congr (fun k => by rw [if_pos (by omega), if_pos (by omega), Int.toNat_natCast]) ?_
    exact toInt_loop l hl l 0 rfl
  exact Ev.bind h1 (Ev.now _)
theorem eqInt_loop (l : List Int) (hl : l.length ≤ 9223372036854775807) : ∀ (rest : List Int) (i : Nat), l.drop i = rest → Ev (fun k => laws_eqIntS.l0 k l l (i : Int)) true := by
  intro rest
  induction rest with
  | nil =>
    intro i h
    have := drop_nil h
    refine Ev.step (f := fun _ => some true) (fun k => ?_) (Ev.now _)
    simp only [laws_eqIntS.l0]
    rw [if_neg (by omega)]
  | cons x rest ih =>
    intro i h
    obtain ⟨hi, hx, hd⟩ := drop_cons (d := 0) h
    refine Ev.step (fun k => ?_) (ih (i + 1) hd)
    simp only [laws_eqIntS.l0]
    rw [if_pos (by omega), if_pos (by omega), if_pos (by omega), if_true, wrap_succ hi hl]
theorem eqInt_self (l : List Int) (hl : l.length ≤ 9223372036854775807) : Ev (fun k => laws_eqIntS.f k l l) true := by
  unfold laws_eqIntS.f
  refine Ev.congr (fun k => by rw [if_pos rfl]) ?_
  exact eqInt_loop l hl l 0 rfl
theorem eqC_self (n : Int) (l : List Int) (hl : l.length ≤ 9223372036854775807) : Ev (fun k => laws_eqContext.f k n l n l) true := by
  unfold laws_eqContext.f
  refine Ev.congr (fun k => by rw [if_pos rfl]) ?_
  refine Ev.bind (eqInt_self l hl) ?_
  exact Ev.congr (fun k => by rw [if_pos rfl]) (Ev.now true)
end Go.Proofs.Ytamjnninbdnjhaa.Pu
namespace Go.Proofs.Ytamjnninbdnjhaa.Pu
open Go.RowKit Go.Proofs.YtamjnninbdnjhaaW.PrintWords Go.Proofs.YtamjnninbdnjhaaW.PrintLast Go.Proofs.YtamjnninbdnjhaaW.PrintMore Go.Proofs.Ytamjnninbdnjhaa.Pr
/-- numbers from m on, as many as a list has -/
def markI : List Int → Int → List Int
  | [], _ => []
  | _ :: l, m => m :: markI l (m + 1)
theorem markI_loop (n : Nat) (hn : n ≤ 1048576) : ∀ (rest done : List Int) (i : Nat) (m : Int), done.length = i → i + rest.length = n → 0 ≤ m → m ≤ 1 + i →
    Ev (fun k => laws_markIntS.l0 k (done ++ rest) m (i : Int)) (m + rest.length, done ++ markI rest m) := by
  intro rest
  induction rest with
  | nil =>
    intro done i m hd hi h0 h1
    refine Ev.step (f := fun _ => some (m, done)) (fun k => ?_) ?_
    · simp only [laws_markIntS.l0, List.append_nil]
      rw [if_neg (by omega)]
    · simp only [markI, List.append_nil, List.length_nil]
      rw [show m + ((0 : Nat) : Int) = m from by omega]
      exact Ev.now _
  | cons x rest ih =>
    intro done i m hd hi h0 h1
    rw [List.length_cons] at hi
    have w1 : wrap64 (m + 1) = m + 1 := by unfold wrap64; omega
    have w3 : wrap64 ((i : Int) + 1) = ((i + 1 : Nat) : Int) := by unfold wrap64; omega
    refine Ev.step (f := fun k => laws_markIntS.l0 k ((done ++ [m]) ++ rest) (m + 1) ((i + 1 : Nat) : Int)) (fun k => ?_) ?_
    · simp only [laws_markIntS.l0]
      rw [if_pos (by rw [List.length_append, List.length_cons]; omega), if_pos (by omega), w1, w3, Int.toNat_natCast, set_midC _ _ _ _ i hd]
      simp
    · have := ih (done ++ [m]) (i + 1) (m + 1) (by simp [hd]) (by omega) (by omega) (by omega)
      rw [markI, List.length_cons]
      rw [show m + ((rest.length + 1 : Nat) : Int) = m + 1 + (rest.length : Int) from by omega]
      simpa using this
theorem markC_val (n : Int) (l : List Int) (hl : l.length ≤ 1048576) : Ev (fun k => laws_markContext.f k n l 1) (1 + (l.length : Int), markI l 1) := by
  unfold laws_markContext.f laws_markIntS.f
  exact Ev.bind (markI_loop l.length hl l [] 0 1 rfl (by omega) (by decide) (by omega)) (Ev.now _)
theorem markC_pos (l : List Int) : ¬ (1 + (l.length : Int) < 0) := by omega
end Go.Proofs.Ytamjnninbdnjhaa.Pu
namespace Go.Proofs.Ytamjnninbdnjhaa.Pu
open Go.RowKit Go.Proofs.YtamjnninbdnjhaaW.PrintWords Go.Proofs.YtamjnninbdnjhaaW.PrintLast Go.Proofs.YtamjnninbdnjhaaW.PrintMore Go.Proofs.Ytamjnninbdnjhaa.Pr
theorem rdOf_nat {α : Type} (d : α) (l : List α) (i : Nat) : rdOf d l (i : Int) = l.getD i d := by unfold rdOf; rw [Int.toNat_natCast]
theorem set_midT {α : Type} (a b : List α) (x y : α) (n : Nat) (h : a.length = n) : (a ++ x :: b).set n y = a ++ y :: b := by
  subst h
  rw [List.set_append]
  simp
theorem eqT_loop (l : List ByteArray) (hl : l.length ≤ 9223372036854775807) : ∀ (rest : List ByteArray) (i : Nat), l.drop i = rest → Ev (fun k => laws_eqStringS.l0 k l l (i : Int)) true := by
  intro rest
  induction rest with
  | nil =>
    intro i h
    have := drop_nil h
    refine Ev.step (f := fun _ => some true) (fun k => ?_) (Ev.now _)
    simp only [laws_eqStringS.l0]
    rw [if_neg (by omega)]
  | cons x rest ih =>
    intro i h
    obtain ⟨hi, hx, hr⟩ := drop_cons (d := ByteArray.empty) h
    refine Ev.step (f := fun k => laws_eqStringS.l0 k l l ((i + 1 : Nat) : Int)) (fun k => ?_) (ih (i + 1) hr)
    simp only [laws_eqStringS.l0]
    rw [if_pos (by omega), if_pos (by omega), if_pos (by omega), if_true, wrap_succ hi hl]
theorem eqT_self (l : List ByteArray) (hl : l.length ≤ 9223372036854775807) : Ev (fun k => laws_eqStringS.f k l l) true := by
  unfold laws_eqStringS.f
  refine Ev.congr (fun k => ?_) (eqT_loop l hl l 0 rfl)
  rw [if_pos rfl]
  rfl
/-- the digits of a number, ahead of a text, and an 'm' ahead of all -/
def mtF : Nat → Nat → ByteArray → ByteArray
  | 0, _, a => (⟨#[109]⟩ : ByteArray) ++ a
  | d + 1, x, a => if x = 0 then (⟨#[109]⟩ : ByteArray) ++ a else mtF d (x / 10) (strOfNums [(wrap64 (48 + (Int.tmod (x : Int) 10))) % 256] ++ a)
theorem strOfNums_one (v : Int) : (strOfNums [v]).size = 1 := rfl
theorem mt_loop : ∀ (d x : Nat) (a : ByteArray), x < 10 ^ d → d ≤ 9 → a.size + d ≤ 20 → Ev (fun k => laws_markText.l0 k (x : Int) a) (mtF d x a) := by
  intro d
  induction d with
  | zero =>
    intro x a hx _ ha
    obtain rfl : x = 0 := by omega
    refine Ev.step (f := fun _ => some ((⟨#[109]⟩ : ByteArray) ++ a)) (fun k => ?_) (Ev.now _)
    simp only [laws_markText.l0]
    rw [if_neg (by omega), if_pos (by omega)]
  | succ d ih =>
    intro x a hx hd ha
    by_cases h0 : x = 0
    · subst h0
      refine Ev.step (f := fun _ => some ((⟨#[109]⟩ : ByteArray) ++ a)) (fun k => ?_) (Ev.now _)
      simp only [laws_markText.l0]
      rw [if_neg (by omega), if_pos (by omega)]
    · have hx9 : x < 10 ^ 9 := Nat.lt_of_lt_of_le hx (Nat.pow_le_pow_right (by decide) hd)
      have hdv : x / 10 < 10 ^ d := by
        rw [Nat.pow_succ] at hx
        exact Nat.div_lt_of_lt_mul (by omega)
      have hw : wrap64 (Int.tdiv (x : Int) 10) = ((x / 10 : Nat) : Int) := by
        rw [Int.tdiv_eq_ediv_of_nonneg (by omega)]
        unfold wrap64
        have : (10 : Nat) ^ 9 = 1000000000 := by decide
        omega
      rw [mtF, if_neg h0]
      refine Ev.step (f := fun k => laws_markText.l0 k ((x / 10 : Nat) : Int) (strOfNums [(wrap64 (48 + (Int.tmod (x : Int) 10))) % 256] ++ a)) (fun k => ?_) (ih (x / 10) _ hdv (by omega) (by rw [ByteArray.size_append, strOfNums_one]; omega))
      simp only [laws_markText.l0, Option.bind_some]
      rw [if_pos (by omega), if_pos (by rw [strOfNums_one]; omega), hw]
def mt (x : Nat) : ByteArray := if x = 0 then (⟨#[109, 48]⟩ : ByteArray) else mtF 9 x (⟨#[]⟩ : ByteArray)
theorem mt_val (x : Nat) (hx : x < 10 ^ 9) : Ev (fun k => laws_markText.f k (x : Int)) (mt x) := by
  unfold laws_markText.f mt
  by_cases h : x = 0
  · rw [if_pos h]
    exact Ev.congr (fun k => by rw [if_pos (by omega)]) (Ev.now _)
  · rw [if_neg h]
    exact Ev.congr (fun k => by rw [if_neg (by omega)]) (mt_loop 9 x _ hx (by omega) (by decide))
/-- texts marked with the numbers from m on -/
def markedT : List ByteArray → Nat → List ByteArray
  | [], _ => []
  | _ :: l, m => mt m :: markedT l (m + 1)
theorem markT_loop (n : Nat) (hn : n ≤ 1048576) : ∀ (rest done : List ByteArray) (i : Nat) (m : Nat), done.length = i → i + rest.length = n → m ≤ 1 + i →
    Ev (fun k => laws_markStringS.l0 k (done ++ rest) (m : Int) (i : Int)) ((m : Int) + rest.length, done ++ markedT rest m) := by
  intro rest
  induction rest with
  | nil =>
    intro done i m hd hi h1
    refine Ev.step (f := fun _ => some ((m : Int), done)) (fun k => ?_) ?_
    · simp only [laws_markStringS.l0, List.append_nil]
      rw [if_neg (by omega)]
    · simp only [markedT, List.append_nil, List.length_nil]
      rw [show (m : Int) + ((0 : Nat) : Int) = m from by omega]
      exact Ev.now _
  | cons x rest ih =>
    intro done i m hd hi h1
    rw [List.length_cons] at hi
    have w1 : wrap64 ((m : Int) + 1) = ((m + 1 : Nat) : Int) := by unfold wrap64; omega
    have w3 : wrap64 ((i : Int) + 1) = ((i + 1 : Nat) : Int) := by unfold wrap64; omega
    refine Ev.step (f := fun k => (laws_markText.f k (m : Int)).bind fun t => laws_markStringS.l0 k ((done ++ x :: rest).set i t) ((m + 1 : Nat) : Int) ((i + 1 : Nat) : Int)) (fun k => ?_) ?_
    · simp only [laws_markStringS.l0]
      rw [if_pos (by rw [List.length_append, List.length_cons]; omega), w1, w3]
      simp only [if_pos (show (0 : Int) ≤ (i : Int) by omega), Int.toNat_natCast]
    · refine Ev.bind (mt_val m (by omega)) ?_
      rw [set_midT _ _ _ _ i hd]
      have := ih (done ++ [mt m]) (i + 1) (m + 1) (by simp [hd]) (by omega) (by omega)
      rw [markedT, List.length_cons]
      rw [show (m : Int) + ((rest.length + 1 : Nat) : Int) = ((m + 1 : Nat) : Int) + (rest.length : Int) from by omega]
      simpa using this
theorem markT_val (l : List ByteArray) (hl : l.length ≤ 1048576) : Ev (fun k => laws_markStringS.f k l 1) (1 + (l.length : Int), markedT l 1) := by
  unfold laws_markStringS.f
  exact markT_loop l.length hl l [] 0 1 rfl (by omega) (by omega)
theorem heldT_loop (n : Nat) (hn : n ≤ 1048576) : ∀ (rest done : List ByteArray) (i : Nat) (m : Nat), done.length = i → i + rest.length = n → m ≤ 1 + i →
    Ev (fun k => laws_heldStringS.l0 k (done ++ markedT rest m) (m : Int) (i : Int)) ((m : Int) + rest.length) := by
  intro rest
  induction rest with
  | nil =>
    intro done i m hd hi h1
    refine Ev.step (f := fun _ => some (m : Int)) (fun k => ?_) ?_
    · simp only [laws_heldStringS.l0, markedT, List.append_nil]
      rw [if_neg (by omega)]
    · rw [List.length_nil, show (m : Int) + ((0 : Nat) : Int) = m from by omega]
      exact Ev.now _
  | cons x rest ih =>
    intro done i m hd hi h1
    rw [List.length_cons] at hi
    have w1 : wrap64 ((m : Int) + 1) = ((m + 1 : Nat) : Int) := by unfold wrap64; omega
    have w3 : wrap64 ((i : Int) + 1) = ((i + 1 : Nat) : Int) := by unfold wrap64; omega
    rw [markedT]
    have hrd : rdOf ByteArray.empty (done ++ mt m :: markedT rest (m + 1)) (i : Int) = mt m := by
      rw [rdOf_nat, List.getD_eq_getElem?_getD, List.getElem?_append_right (by omega), hd]
      simp
    refine Ev.step (f := fun k => (laws_markText.f k (m : Int)).bind fun t => if (mt m).toList = t.toList then laws_heldStringS.l0 k (done ++ mt m :: markedT rest (m + 1)) ((m + 1 : Nat) : Int) ((i + 1 : Nat) : Int) else some (-1)) (fun k => ?_) ?_
    · simp only [laws_heldStringS.l0]
      rw [if_pos (by rw [List.length_append, List.length_cons]; omega), if_pos (by omega), hrd, w1, w3]
    · refine Ev.bind (mt_val m (by omega)) ?_
      refine Ev.congr (fun k => if_pos rfl) ?_
      have := ih (done ++ [mt m]) (i + 1) (m + 1) (by simp [hd]) (by omega) (by omega)
      rw [List.length_cons, show (m : Int) + ((rest.length + 1 : Nat) : Int) = ((m + 1 : Nat) : Int) + (rest.length : Int) from by omega]
      simpa using this
theorem heldT_val (l : List ByteArray) (hl : l.length ≤ 1048576) : Ev (fun k => laws_heldStringS.f k (markedT l 1) 1) (1 + (l.length : Int)) := by
  unfold laws_heldStringS.f
  exact heldT_loop l.length hl l [] 0 1 rfl (by omega) (by omega)
theorem markT_pos (l : List ByteArray) : ¬ (1 + (l.length : Int) < 0) := by omega
end Go.Proofs.Ytamjnninbdnjhaa.Pu
namespace Go.Proofs.Ytamjnninbdnjhaa.Op
open Go.RowKit Go.Proofs.YtamjnninbdnjhaaW.PrintWords
open Go.Deep
def Opens {α : Type} (P : Program) (t : TypeId) (d : Kd α) (wf : α → Prop) : Prop :=
  ∀ {H : Type} {enc : TypeId × Value → H} {w : World} {base : Nat} {spare : Nat → Bool} {held : Bool} {fuel : Nat} {cs : List Value} {x : DataW H × List MemPlace},
    DataW.trod enc P w base spare held fuel t cs = some x → ∃ v : α, d.K w v cs ∧ wf v
theorem Opens.int {P : Program} {t : TypeId} {k : IntKind} (ht : P.underlying t = some (.int k)) : Opens P t (Kd.int k) (fun n => (Lit.int k n).wf = true) := by
  intro H enc w base spare held fuel cs x h
  obtain ⟨n, rfl, _, hw⟩ := DataW.trod_int ht h
  exact ⟨n, rfl, hw⟩
theorem Opens.iso {α β : Type} {P : Program} {t : TypeId} {d : Kd α} {wf : α → Prop} (h : Opens P t d wf) (f : β → α) (g : α → β) (hfg : ∀ a, f (g a) = a) : Opens P t (Kd.iso d f) (fun b => wf (f b)) := by
  intro H enc w base spare held fuel cs x ht
  obtain ⟨v, hK, hw⟩ := h ht
  refine ⟨g v, ?_, ?_⟩
  · show d.K w (f (g v)) cs
    rw [hfg]; exact hK
  · show wf (f (g v))
    rw [hfg]; exact hw
theorem Opens.struct2 {α β : Type} {P : Program} {t : TypeId} {f0 f1 : Field} {d0 : Kd α} {d1 : Kd β} {w0 : α → Prop} {w1 : β → Prop} (ht : P.underlying t = some (.struct #[f0, f1]))
    (o0 : f0.offset = 0) (c0 : P.cellsOf f0.type = d0.sz) (o1 : f1.offset = d0.sz) (c1 : P.cellsOf f1.type = d1.sz) (ct : P.cellsOf t = d0.sz + d1.sz)
    (h0 : Opens P f0.type d0 w0) (h1 : Opens P f1.type d1 w1) : Opens P t (Kd.pair d0 d1) (fun x => w0 x.1 ∧ w1 x.2) := by
  intro H enc w base spare held fuel cs x h
  obtain ⟨xs, n, _, _, hl, hn, hf⟩ := DataW.trod_struct ht h
  have hn2 : xs.length = 2 := hn
  have a0 := hf 0 f0 rfl
  have a1 := hf 1 f1 rfl
  rw [List.getElem?_eq_getElem (by omega)] at a0 a1
  obtain ⟨v0, k0, q0⟩ := h0 a0
  obtain ⟨v1, k1, q1⟩ := h1 a1
  refine ⟨(v0, v1), ⟨_, _, ?_, k0, k1⟩, q0, q1⟩
  rw [o0, c0, o1, c1, List.drop_zero]
  rw [ct] at hl
  have e : (cs.drop d0.sz).take d1.sz = cs.drop d0.sz := List.take_of_length_le (by rw [List.length_drop]; omega)
  rw [e, List.take_append_drop]
theorem Opens.slice {α : Type} [Inhabited α] {P : Program} {t e : TypeId} {d : Kd α} {wf : α → Prop} (ht : P.underlying t = some (.slice e)) (hc : P.cellsOf e = d.sz) (h : Opens P e d wf) : Opens P t (Kd.slice e d) (fun xs => ∀ x ∈ xs, wf x) := by
  intro H enc w base spare held fuel cs x hx
  rcases open_slice ht hx with ⟨rfl, _⟩ | ⟨a, len, cap, m, n, D, Pl, rfl, hb, hl, hm, hmm, rfl, hel⟩
  · exact ⟨[], ⟨none, 0, rfl, Nat.le_refl _, Kd.C_nil d w⟩, by simp⟩
  · have hlm : len ≤ m := by rw [hmm]; split <;> omega
    obtain ⟨f, hf⟩ := choose_lt (α := α) (n := len) (p := fun i v => ∃ cs', w.cells? base (a.add (i * P.cellsOf e)) (P.cellsOf e) = some cs' ∧ d.K w v cs' ∧ wf v) (fun i hi => by
      obtain ⟨cs', h1, h2⟩ := hel i (by omega)
      obtain ⟨v, hk, hw⟩ := h h2
      exact ⟨v, cs', h1, hk, hw⟩)
    refine ⟨(List.range len).map f, ⟨some a, cap, by simp, by simpa using hl, by simp, by simp only [maxLen] at hm; simp; omega, fun _ => ⟨a, rfl, fun j p hj => ?_⟩⟩, ?_⟩
    · have hjl : j < len := by
        have := (List.getElem?_eq_some_iff.1 hj).1
        simpa using this
      have hp : p = f j := by simpa [hjl] using hj.symm
      subst hp
      obtain ⟨cs', h1, hk, _⟩ := hf j hjl
      obtain ⟨_, hlen, hcell⟩ := World.cells?_some h1
      refine ⟨cs', by rw [hlen, hc], hk, fun i u hu => ?_⟩
      have hi : i < cs'.length := (List.getElem?_eq_some_iff.1 hu).1
      have h2 := hcell i (by omega)
      rw [Go.Deep.add_add] at h2
      rw [← hc, h2, hu]
    · intro y hy
      obtain ⟨j, hj, rfl⟩ := List.mem_map.1 hy
      obtain ⟨_, _, _, hw⟩ := hf j (List.mem_range.1 hj)
      exact hw
end Go.Proofs.Ytamjnninbdnjhaa.Op
