/- What the law needs of the program's functions as plain functions, of the proofs that their calls answer so, and of plain laws: gathered by a program of this place (pack.py) out of its printed texts. No condition beyond what each statement says. -/
import Derived.Test.YtamjnninbdnjhaaDoorZXContextOfFamily1
import Derived.Laws.BitsLemmas
import Derived.RowKit
import Derived.Test.YtamjnninbdnjhaaDoorZXContextOfFamily2
import Derived.Test.YtamjnninbdnjhaaDoorZXContextOfFamily3
import Derived.Test.YtamjnninbdnjhaaDoorZXContextOfFamily6
import Derived.Test.YtamjnninbdnjhaaDoorZXContextOfFamily5
import Derived.Test.YtamjnninbdnjhaaDoorZXContextOfFamily4
namespace Go.Proofs.YtamjnninbdnjhaaDoor.Pu
/-- all elements of a are in b -/
def sub (a b : Nat) : Bool := a &&& b == a
theorem sub_iff {a b : Nat} : sub a b = true ↔ ∀ i, a.testBit i = true → b.testBit i = true := by
  unfold sub
  rw [beq_iff_eq]
  constructor
  · intro h i hi
    rw [← h, Nat.testBit_and] at hi
    exact (Bool.and_eq_true_iff.1 hi).2
  · intro h
    apply Nat.eq_of_testBit_eq
    intro i
    rw [Nat.testBit_and]
    cases ha : a.testBit i with
    | false => rfl
    | true => rw [h i ha]; rfl
theorem sub_le {a b : Nat} (h : sub a b = true) : a ≤ b := by
  have : a &&& b = a := by simpa [sub] using h
  rw [← this]; exact Nat.and_le_right
/-- the elements of a that are not in b -/
def diff (a b : Nat) : Nat := a ^^^ (a &&& b)
theorem testBit_diff (a b i : Nat) : (diff a b).testBit i = (a.testBit i && !b.testBit i) := by
  unfold diff
  rw [Nat.testBit_xor, Nat.testBit_and]
  cases a.testBit i <;> cases b.testBit i <;> rfl
theorem diff_eq_zero {a b : Nat} : diff a b = 0 ↔ sub a b = true := by
  constructor
  · intro h
    refine sub_iff.2 fun i hi => ?_
    have := testBit_diff a b i
    rw [h, hi] at this
    simpa using this
  · intro h
    apply Nat.eq_of_testBit_eq
    intro i
    rw [testBit_diff, Nat.zero_testBit]
    cases ha : a.testBit i with
    | false => rfl
    | true => rw [sub_iff.1 h i ha]; rfl
abbrev Rules := List (Nat × Nat)
/-- one step: the set with the conclusions of all rules whose premises it has -/
def step (R : Rules) (s : Nat) : Nat := R.foldl (fun o r => if sub r.1 s then o ||| r.2 else o) s
/-- the number whose bit i is f i, for i below k -/
def ofBits (f : Nat → Bool) : Nat → Nat
  | 0 => 0
  | k + 1 => ofBits f k ||| (if f k then 2 ^ k else 0)
/-- i, i + 1, .. , n - 1 -/
def foldIdx {σ : Type} (f : Nat → σ → σ) (i n : Nat) (s : σ) : σ := (List.range' i (n - i)).foldl (fun s j => f j s) s
theorem foldIdx_end {σ : Type} (f : Nat → σ → σ) {i n : Nat} (h : n ≤ i) (s : σ) : foldIdx f i n s = s := by
  unfold foldIdx; rw [Nat.sub_eq_zero_of_le h]; rfl
theorem foldIdx_step {σ : Type} (f : Nat → σ → σ) {i n : Nat} (h : i < n) (s : σ) : foldIdx f i n s = foldIdx f (i + 1) n (f i s) := by
  unfold foldIdx
  obtain ⟨d, rfl⟩ : ∃ d, n = i + 1 + d := ⟨n - (i + 1), by omega⟩
  rw [show i + 1 + d - i = d + 1 from by omega, show i + 1 + d - (i + 1) = d from by omega, List.range'_succ, List.foldl_cons]
end Go.Proofs.YtamjnninbdnjhaaDoor.Pu
namespace Go.Proofs.YtamjnninbdnjhaaDoor.Pu
open Go.RowKit Go.Proofs.YtamjnninbdnjhaaDoorW.PrintWords
theorem wraps_i64 (n : Int) (h₀ : 0 ≤ n) (h₁ : n < 2 ^ 63) : IntKind.i64.wrap n = n := by rw [IntKind.wrap_i64]; omega
theorem and_nat {a b : Nat} (ha : a < 2 ^ 63) (hb : b < 2 ^ 63) : Go.bits .and .i64 (a : Int) (b : Int) = ((a &&& b : Nat) : Int) := (bits_nat .i64 63 (by decide) wraps_i64 a b ha hb).1
theorem bits_xor_nat (k : IntKind) (j : Nat) (hj : j ≤ k.bits) (hk : ∀ n : Int, 0 ≤ n → n < 2 ^ j → k.wrap n = n) (a b : Nat) (ha : a < 2 ^ j) (hb : b < 2 ^ j) : bits .xor k a b = ((a ^^^ b : Nat) : Int) := by
  have hp : 2 ^ j ≤ 2 ^ k.bits := Nat.pow_le_pow_right (by decide) hj
  have ha' : a % 2 ^ k.bits = a := Nat.mod_eq_of_lt (Nat.lt_of_lt_of_le ha hp)
  have hb' : b % 2 ^ k.bits = b := Nat.mod_eq_of_lt (Nat.lt_of_lt_of_le hb hp)
  have cast : ∀ n : Nat, n < 2 ^ j → ((n : Nat) : Int) < 2 ^ j := fun n h => by exact_mod_cast h
  simp only [bits, BitVec.ofInt_natCast, BitVec.toNat_xor, BitVec.toNat_ofNat, ha', hb']
  exact hk _ (Int.natCast_nonneg _) (cast _ (Nat.xor_lt_two_pow ha hb))
theorem diff_le (a b : Nat) : diff a b ≤ a := by
  refine sub_le (sub_iff.2 fun i hi => ?_)
  rw [testBit_diff] at hi
  exact (Bool.and_eq_true_iff.1 hi).1
theorem bits_andNot_nat (k : IntKind) (j : Nat) (hj : j ≤ k.bits) (hk : ∀ n : Int, 0 ≤ n → n < 2 ^ j → k.wrap n = n) (a b : Nat) (ha : a < 2 ^ j) (hb : b < 2 ^ j) : bits .andNot k a b = ((diff a b : Nat) : Int) := by
  have hp : 2 ^ j ≤ 2 ^ k.bits := Nat.pow_le_pow_right (by decide) hj
  have ha' : a % 2 ^ k.bits = a := Nat.mod_eq_of_lt (Nat.lt_of_lt_of_le ha hp)
  have hb' : b % 2 ^ k.bits = b := Nat.mod_eq_of_lt (Nat.lt_of_lt_of_le hb hp)
  have cast : ∀ n : Nat, n < 2 ^ j → ((n : Nat) : Int) < 2 ^ j := fun n h => by exact_mod_cast h
  have e : (BitVec.ofNat k.bits a &&& ~~~(BitVec.ofNat k.bits b)).toNat = diff a b := by
    apply Nat.eq_of_testBit_eq
    intro i
    rw [testBit_diff, BitVec.toNat_and, Nat.testBit_and, BitVec.toNat_ofNat, ha']
    by_cases hi : i < k.bits
    · rw [show ((~~~(BitVec.ofNat k.bits b)).toNat).testBit i = (~~~(BitVec.ofNat k.bits b)).getLsbD i from rfl, BitVec.getLsbD_not]
      simp [hi, BitVec.getLsbD, hb']
    · rw [Nat.testBit_lt_two_pow (x := a) (i := i) (Nat.lt_of_lt_of_le ha (Nat.pow_le_pow_right (by decide) (by omega)))]
      simp
  simp only [bits, BitVec.ofInt_natCast, e]
  exact hk _ (Int.natCast_nonneg _) (cast _ (Nat.lt_of_le_of_lt (diff_le a b) ha))
theorem xor_nat {a b : Nat} (ha : a < 2 ^ 63) (hb : b < 2 ^ 63) : Go.bits .xor .i64 (a : Int) (b : Int) = ((a ^^^ b : Nat) : Int) := bits_xor_nat .i64 63 (by decide) wraps_i64 a b ha hb
theorem andNot_nat {a b : Nat} (ha : a < 2 ^ 63) (hb : b < 2 ^ 63) : Go.bits .andNot .i64 (a : Int) (b : Int) = ((diff a b : Nat) : Int) := bits_andNot_nat .i64 63 (by decide) wraps_i64 a b ha hb
/-- a set: a number from 0 to 2^n - 1, n from 0 to 8 -/
def isSetB (n s : Int) : Bool := decide (0 ≤ n ∧ n ≤ 8 ∧ 0 ≤ s ∧ s < 2 ^ n.toNat)
def isAny (s : Int) : Bool := decide (0 ≤ s ∧ s < 256)
theorem isSetB_8 (s : Int) : isSetB 8 s = isAny s := by
  unfold isSetB isAny
  rw [show (8 : Int).toNat = 8 from rfl]
  have : (2 : Int) ^ 8 = 256 := by decide
  rw [this]
  simp
theorem isAny_nat {s : Int} (h : isAny s = true) : ∃ a : Nat, a < 256 ∧ s = (a : Int) := by
  unfold isAny at h
  have := of_decide_eq_true h
  exact ⟨s.toNat, by omega, by omega⟩
theorem isSetB_nat {n s : Int} (h : isSetB n s = true) : ∃ m a : Nat, m ≤ 8 ∧ n = (m : Int) ∧ a < 2 ^ m ∧ s = (a : Int) := by
  unfold isSetB at h
  obtain ⟨h1, h2, h3, h4⟩ := of_decide_eq_true h
  refine ⟨n.toNat, s.toNat, by omega, by omega, ?_, by omega⟩
  have : ((s.toNat : Nat) : Int) < ((2 ^ n.toNat : Nat) : Int) := by rw [Int.toNat_of_nonneg h3]; simpa using h4
  exact_mod_cast this
theorem upper_val (n : Int) (h0 : 0 ≤ n) (h1 : n ≤ 8) : wrap64 ((shl .i64 1 n) - 1) = 2 ^ n.toNat - 1 := by
  have h : n = 0 ∨ n = 1 ∨ n = 2 ∨ n = 3 ∨ n = 4 ∨ n = 5 ∨ n = 6 ∨ n = 7 ∨ n = 8 := by omega
  rcases h with rfl | rfl | rfl | rfl | rfl | rfl | rfl | rfl | rfl <;> decide +kernel
theorem wrapU_val (n : Int) (h0 : 0 ≤ n) (h1 : n ≤ 8) : IntKind.u64.wrap n = n := by
  have h : n = 0 ∨ n = 1 ∨ n = 2 ∨ n = 3 ∨ n = 4 ∨ n = 5 ∨ n = 6 ∨ n = 7 ∨ n = 8 := by omega
  rcases h with rfl | rfl | rfl | rfl | rfl | rfl | rfl | rfl | rfl <;> decide +kernel
end Go.Proofs.YtamjnninbdnjhaaDoor.Pu
namespace Go.Proofs.YtamjnninbdnjhaaDoor.Pu
open Go.RowKit Go.Proofs.YtamjnninbdnjhaaDoorW.PrintWords Go.Proofs.YtamjnninbdnjhaaDoorW.PrintLast Go.Proofs.YtamjnninbdnjhaaDoorW.PrintMore Go.Proofs.YtamjnninbdnjhaaDoor.Pr
theorem wrap_succ {i n : Nat} (h : i < n) (hn : n ≤ 9223372036854775807) : wrap64 ((i : Int) + 1) = ((i + 1 : Nat) : Int) := by unfold wrap64; omega
theorem drop_nil {α : Type} {l : List α} {i : Nat} (h : l.drop i = []) : l.length ≤ i := by
  have := congrArg List.length h
  simp at this; omega
theorem drop_cons {α : Type} {l rest : List α} {i : Nat} {x d : α} (h : l.drop i = x :: rest) : i < l.length ∧ l.getD i d = x ∧ l.drop (i + 1) = rest := by
  have hi : i < l.length := by
    rcases Nat.lt_or_ge i l.length with h' | h'
    · exact h'
    · rw [List.drop_of_length_le h'] at h; cases h
  rw [List.drop_eq_getElem_cons hi] at h
  injection h with h1 h2
  exact ⟨hi, by rw [List.getD_eq_getElem?_getD, List.getElem?_eq_getElem hi]; exact h1, h2⟩
theorem rd_nat (l : List Int) (i : Nat) : rd l (i : Int) = l.getD i 0 := by unfold rd; rw [Int.toNat_natCast]
end Go.Proofs.YtamjnninbdnjhaaDoor.Pu
namespace Go.Proofs.YtamjnninbdnjhaaDoor.Pu
open Go.RowKit Go.Proofs.YtamjnninbdnjhaaDoorW.PrintWords Go.Proofs.YtamjnninbdnjhaaDoorW.PrintLast Go.Proofs.YtamjnninbdnjhaaDoorW.PrintMore Go.Proofs.YtamjnninbdnjhaaDoor.Pr
theorem l1In_val (a b c : Int) : spec_l1In.f a b c = some (decide (b ≤ a ∧ a ≤ c)) := by
  unfold spec_l1In.f
  by_cases h : b ≤ a
  · rw [if_pos h]; simp [h]
  · rw [if_neg h]; simp [h]
theorem within_val (a b c : Int) : impl_within.f a b c = some (decide (b ≤ a ∧ a ≤ c)) := by
  unfold impl_within.f
  by_cases h : b ≤ a
  · rw [if_pos h]; simp [h]
  · rw [if_neg h]; simp [h]
theorem setB_of {n s : Int} (h : 0 ≤ n ∧ n ≤ 8) : decide (0 ≤ s ∧ s ≤ 2 ^ n.toNat - 1) = isSetB n s := by
  unfold isSetB
  generalize (2 : Int) ^ n.toNat = q
  rw [decide_eq_decide]
  omega
theorem setB_not {n s : Int} (h : ¬ (0 ≤ n ∧ n ≤ 8)) : isSetB n s = false := by
  unfold isSetB
  rw [decide_eq_false_iff_not]
  omega
theorem specSet_val (n s : Int) : spec_IsSet.f n s = some (isSetB n s) := by
  unfold spec_IsSet.f
  rw [l1In_val, Option.bind_some]
  by_cases h : 0 ≤ n ∧ n ≤ 8
  · rw [if_pos (decide_eq_true h), wrapU_val n h.1 h.2, if_pos h.1, upper_val n h.1 h.2, l1In_val, Option.bind_some, setB_of h]
  · rw [if_neg (by simpa using h), setB_not h]
theorem set_val (n s : Int) : impl_IsSet.f n s = some (isSetB n s) := by
  unfold impl_IsSet.f
  rw [within_val, Option.bind_some]
  by_cases h : 0 ≤ n ∧ n ≤ 8
  · rw [if_pos (decide_eq_true h), if_pos h.1, upper_val n h.1 h.2, within_val, Option.bind_some, setB_of h]
  · rw [if_neg (by simpa using h), setB_not h]
theorem any_val (s : Int) : impl_isAnySet.f s = some (isAny s) := by
  unfold impl_isAnySet.f
  rw [set_val, Option.bind_some, isSetB_8]
end Go.Proofs.YtamjnninbdnjhaaDoor.Pu
namespace Go.Proofs.YtamjnninbdnjhaaDoor.Pu
open Go.RowKit Go.Proofs.YtamjnninbdnjhaaDoorW.PrintWords Go.Proofs.YtamjnninbdnjhaaDoorW.PrintLast Go.Proofs.YtamjnninbdnjhaaDoorW.PrintMore Go.Proofs.YtamjnninbdnjhaaDoor.Pr
theorem shr_nat (a e : Nat) (he : e ≤ 64) : shr .i64 (a : Int) (e : Int) = ((a / 2 ^ e : Nat) : Int) := by
  unfold shr
  rw [Int.toNat_natCast, show (IntKind.i64).bits = 64 from rfl, Nat.min_eq_left he]
  simp
theorem bit_val (a e : Nat) (ha : a < 2 ^ 63) (he : e ≤ 64) : (Go.bits .and .i64 (shr .i64 (a : Int) (e : Int)) 1 == 1) = a.testBit e := by
  rw [shr_nat a e he]
  have h1 : a / 2 ^ e < 2 ^ 63 := Nat.lt_of_le_of_lt (Nat.div_le_self _ _) ha
  have h2 := and_nat h1 (show 1 < 2 ^ 63 by decide)
  rw [show ((1 : Nat) : Int) = 1 from rfl] at h2
  rw [h2, Nat.and_one_is_mod, Nat.testBit_eq_decide_div_mod_eq, Bool.eq_iff_iff, beq_iff_eq, decide_eq_true_iff]
  omega
def hasV (s e : Int) : Bool := isAny s && (decide (0 ≤ e ∧ e ≤ 7) && s.toNat.testBit e.toNat)
theorem hasI_val (s e : Int) : impl_HasElement.f s e = some (hasV s e) := by
  unfold impl_HasElement.f hasV
  rw [any_val, Option.bind_some]
  cases hs : isAny s with
  | false => rfl
  | true =>
    obtain ⟨a, ha, rfl⟩ := isAny_nat hs
    rw [if_pos rfl, within_val, Option.bind_some]
    by_cases he : 0 ≤ e ∧ e ≤ 7
    · obtain ⟨n, rfl⟩ : ∃ n : Nat, e = (n : Int) := ⟨e.toNat, by omega⟩
      rw [if_pos (decide_eq_true he), if_pos he.1, bit_val a n (by omega) (by omega), decide_eq_true he]
      simp
    · rw [if_neg (by simpa using he), decide_eq_false he]
      rfl
end Go.Proofs.YtamjnninbdnjhaaDoor.Pu
namespace Go.Proofs.YtamjnninbdnjhaaDoor.Pu
/-- the number whose eight bits stand the other way round -/
def rv (s : Nat) : Nat := ((s &&& 1) <<< 7) ||| ((s &&& 2) <<< 5) ||| ((s &&& 4) <<< 3) ||| ((s &&& 8) <<< 1) ||| ((s &&& 16) >>> 1) ||| ((s &&& 32) >>> 3) ||| ((s &&& 64) >>> 5) ||| ((s &&& 128) >>> 7)
def bef (s t : Nat) : Bool := decide (rv s < rv t)
end Go.Proofs.YtamjnninbdnjhaaDoor.Pu
namespace Go.Proofs.YtamjnninbdnjhaaDoor.Pu
open Go.RowKit Go.Proofs.YtamjnninbdnjhaaDoorW.PrintWords Go.Proofs.YtamjnninbdnjhaaDoorW.PrintLast Go.Proofs.YtamjnninbdnjhaaDoorW.PrintMore Go.Proofs.YtamjnninbdnjhaaDoor.Pr
def low (d : Nat) : Nat := d &&& (256 - d)
theorem low_int : ∀ d : Fin 256, Go.bits .and .i64 ((d.val : Nat) : Int) (wrap64 (-((d.val : Nat) : Int))) = ((low d.val : Nat) : Int) := by decide +kernel
theorem low_bef_all : ((List.range 256).all fun s => (List.range 256).all fun t => ((t &&& low (s ^^^ t)) != 0) == bef s t) = true := by decide +kernel
theorem low_bef {s t : Nat} (hs : s < 256) (ht : t < 256) : ((t &&& low (s ^^^ t)) != 0) = bef s t := by
  have := List.all_eq_true.1 low_bef_all s (List.mem_range.2 hs)
  exact eq_of_beq (List.all_eq_true.1 this t (List.mem_range.2 ht))
theorem ctz_low : ∀ d : Fin 256, d.val ≠ 0 → Lib.ctz 64 d.val ≤ 7 ∧ 2 ^ Lib.ctz 64 d.val = low d.val := by decide +kernel
theorem bit_low : ∀ t : Fin 256, ∀ i : Fin 8, t.val.testBit i.val = ((t.val &&& 2 ^ i.val) != 0) := by decide +kernel
theorem bef_irrefl (s : Nat) : bef s s = false := by unfold bef; exact decide_eq_false (Nat.lt_irrefl _)
theorem xor_zero_eq {a b : Nat} (e : a ^^^ b = 0) : a = b := by
  have e2 : (a ^^^ b) ^^^ b = 0 ^^^ b := by rw [e]
  rw [Nat.xor_assoc, Nat.xor_self, Nat.xor_zero, Nat.zero_xor] at e2
  exact e2
def befV (s t : Int) : Bool := isAny s && isAny t && bef s.toNat t.toNat
theorem befS_val (s t : Int) : spec_BeforeSet.f s t = some (befV s t) := by
  unfold spec_BeforeSet.f
  rw [specSet_val, specSet_val, isSetB_8, isSetB_8]
  simp only [Option.bind_some]
  unfold befV
  cases hs : isAny s with
  | false => simp
  | true =>
    cases ht : isAny t with
    | false => simp
    | true =>
      obtain ⟨a, ha, rfl⟩ := isAny_nat hs
      obtain ⟨b, hb, rfl⟩ := isAny_nat ht
      rw [if_pos rfl, if_pos rfl]
      simp only [Int.toNat_natCast, Bool.true_and]
      by_cases h : (a : Int) = (b : Int)
      · rw [if_pos h]
        obtain rfl : a = b := by omega
        rw [bef_irrefl]
      · rw [if_neg h, xor_nat (by omega) (by omega)]
        have hx : a ^^^ b < 256 := Nat.xor_lt_two_pow (n := 8) ha hb
        have e := low_int ⟨a ^^^ b, hx⟩
        simp only at e
        rw [e, and_nat (by omega) (by have : low (a ^^^ b) ≤ a ^^^ b := Nat.and_le_left; omega), ← low_bef ha hb]
        refine congrArg some ?_
        rw [Bool.eq_iff_iff, bne_iff_ne, bne_iff_ne]
        omega
theorem befI_val (s t : Int) : Ev (fun k => impl_BeforeSet.f k s t) (befV s t) := by
  unfold impl_BeforeSet.f
  have hF : Ev (fun k => impl_BeforeSet.j0 k s t true) false := Ev.step (f := fun k => some false) (fun k => by simp [impl_BeforeSet.j0]) (Ev.now false)
  rw [any_val, any_val]
  simp only [Option.bind_some]
  unfold befV
  cases hs : isAny s with
  | false => exact Ev.congr (fun k => by rw [if_neg (by decide)]) hF
  | true =>
    cases ht : isAny t with
    | false => exact Ev.congr (fun k => by rw [if_pos rfl, if_neg (by decide)]) hF
    | true =>
      obtain ⟨a, ha, rfl⟩ := isAny_nat hs
      obtain ⟨b, hb, rfl⟩ := isAny_nat ht
      refine Ev.congr (fun k => by rw [if_pos rfl, if_pos rfl]) ?_
      simp only [Int.toNat_natCast, Bool.true_and]
      by_cases h : (a : Int) = (b : Int)
      · obtain rfl : a = b := by omega
        rw [bef_irrefl, show ((a : Int) == (a : Int)) = true by simp]
        exact hF
      · rw [show ((a : Int) == (b : Int)) = false by simp; omega]
        have hx : a ^^^ b < 256 := Nat.xor_lt_two_pow (n := 8) ha hb
        have hne : a ^^^ b ≠ 0 := fun e => h (congrArg (fun (n : Nat) => (n : Int)) (xor_zero_eq e))
        obtain ⟨h7, hl⟩ := ctz_low ⟨a ^^^ b, hx⟩ hne
        simp only at h7 hl
        have ez : bits_TrailingZeros.f (IntKind.u64.wrap (Go.bits .xor .i64 (a : Int) (b : Int))) = some ((Lib.ctz 64 (a ^^^ b) : Nat) : Int) := by
          unfold bits_TrailingZeros.f bits_TrailingZeros64.f
          rw [xor_nat (by omega) (by omega), show IntKind.u64.wrap ((a ^^^ b : Nat) : Int) = ((a ^^^ b : Nat) : Int) by rw [IntKind.wrap_u64]; omega, if_pos (by omega), Int.toNat_natCast]
          rfl
        have hb2 := bit_low ⟨b, hb⟩ ⟨Lib.ctz 64 (a ^^^ b), by omega⟩
        simp only at hb2
        refine Ev.step (f := fun k => some (bef a b)) (fun k => ?_) (Ev.now _)
        simp only [impl_BeforeSet.j0]
        rw [if_neg (by decide), ez]
        simp only [Option.bind_some]
        rw [hasI_val]
        unfold hasV
        rw [ht]
        simp only [Int.toNat_natCast, Bool.true_and, Option.bind_some]
        rw [hb2, hl, low_bef ha hb, decide_eq_true (by omega), Bool.true_and]
end Go.Proofs.YtamjnninbdnjhaaDoor.Pu
namespace Go.Proofs.YtamjnninbdnjhaaDoor.Pu
open Go.RowKit Go.Proofs.YtamjnninbdnjhaaDoorW.PrintWords Go.Proofs.YtamjnninbdnjhaaDoorW.PrintLast Go.Proofs.YtamjnninbdnjhaaDoorW.PrintMore Go.Proofs.YtamjnninbdnjhaaDoor.Pr
def fullV (n : Int) : Int := if 0 ≤ n ∧ n ≤ 8 then 2 ^ n.toNat - 1 else 0
theorem fullS_val (n : Int) : spec_FullSet.f n = some (fullV n) := by
  unfold spec_FullSet.f fullV
  rw [l1In_val, Option.bind_some]
  by_cases h : 0 ≤ n ∧ n ≤ 8
  · rw [if_pos h]
    first
      | rw [if_pos (decide_eq_true h), wrapU_val n h.1 h.2, if_pos h.1, upper_val n h.1 h.2]
      | rw [if_neg (by simpa using h), wrapU_val n h.1 h.2, if_pos h.1, upper_val n h.1 h.2]
  · rw [if_neg h]
    first
      | rw [if_neg (by simpa using h)]
      | rw [if_pos (by simpa using h)]
theorem fullV_nat {m : Nat} (h : m ≤ 8) : fullV (m : Int) = ((2 ^ m - 1 : Nat) : Int) := by
  unfold fullV
  rw [if_pos (by omega), Int.toNat_natCast]
  have hp := Nat.two_pow_pos m
  rw [show ((2 ^ m - 1 : Nat) : Int) = ((2 ^ m : Nat) : Int) - 1 from by omega, Int.natCast_pow]
  rfl
end Go.Proofs.YtamjnninbdnjhaaDoor.Pu
namespace Go.Proofs.YtamjnninbdnjhaaDoor.Pu
open Go.RowKit Go.Proofs.YtamjnninbdnjhaaDoorW.PrintWords Go.Proofs.YtamjnninbdnjhaaDoorW.PrintLast Go.Proofs.YtamjnninbdnjhaaDoorW.PrintMore Go.Proofs.YtamjnninbdnjhaaDoor.Pr
theorem index_loop (l : List Int) (hl : l.length ≤ 9223372036854775807) (x : Int) : ∀ (rest : List Int) (i : Nat), l.drop i = rest → ∃ r : Int, Ev (fun k => slices_Index_int.l0 k l x (l.length : Int) (i : Int)) r ∧ (0 ≤ r ↔ x ∈ rest) := by
  intro rest
  induction rest with
  | nil =>
    intro i h
    have := drop_nil h
    refine ⟨-1, Ev.step (f := fun _ => some (-1)) (fun k => ?_) (Ev.now _), by simp⟩
    simp only [slices_Index_int.l0]
    rw [if_neg (by omega)]
  | cons y rest ih =>
    intro i h
    obtain ⟨hi, hx, hd⟩ := drop_cons (d := 0) h
    by_cases e : x = y
    · refine ⟨(i : Int), Ev.step (f := fun _ => some (i : Int)) (fun k => ?_) (Ev.now _), by rw [e]; simp⟩
      simp only [slices_Index_int.l0]
      rw [if_pos (by omega), if_pos (by omega), if_pos (by omega), rd_nat, hx, if_pos e]
    · obtain ⟨r, h1, h2⟩ := ih (i + 1) hd
      refine ⟨r, Ev.step (fun k => ?_) h1, by rw [h2, List.mem_cons]; simp [e]⟩
      simp only [slices_Index_int.l0]
      rw [if_pos (by omega), if_pos (by omega), if_pos (by omega), rd_nat, hx, if_neg e, wrap_succ hi hl]
theorem containsI_val (l : List Int) (hl : l.length ≤ 9223372036854775807) (x : Int) : Ev (fun k => slices_Contains_int.f k l x) (decide (x ∈ l)) := by
  unfold slices_Contains_int.f slices_Index_int.f
  obtain ⟨r, h1, h2⟩ := index_loop l hl x l 0 rfl
  refine Ev.bind h1 ?_
  rw [decide_eq_decide.2 h2.symm]
  exact Ev.now _
theorem l2In_loop (l : List Int) (hl : l.length ≤ 9223372036854775807) (x : Int) : ∀ (rest : List Int) (i : Nat), l.drop i = rest → Ev (fun k => spec_l2In.l0 k l x (i : Int)) (decide (x ∈ rest)) := by
  intro rest
  induction rest with
  | nil =>
    intro i h
    have := drop_nil h
    refine Ev.step (f := fun _ => some false) (fun k => ?_) ?_
    · simp only [spec_l2In.l0]
      rw [if_neg (by omega)]
    · rw [decide_eq_false (by simp)]; exact Ev.now _
  | cons y rest ih =>
    intro i h
    obtain ⟨hi, hx, hd⟩ := drop_cons (d := 0) h
    by_cases e : y = x
    · refine Ev.step (f := fun _ => some true) (fun k => ?_) ?_
      · simp only [spec_l2In.l0]
        rw [if_pos (by omega), if_pos (by omega), rd_nat, hx, if_pos e]
      · rw [decide_eq_true (by rw [e]; simp)]; exact Ev.now _
    · refine Ev.step (f := fun k => spec_l2In.l0 k l x ((i + 1 : Nat) : Int)) (fun k => ?_) ?_
      · simp only [spec_l2In.l0]
        rw [if_pos (by omega), if_pos (by omega), rd_nat, hx, if_neg e, wrap_succ hi hl]
      · rw [show decide (x ∈ y :: rest) = decide (x ∈ rest) from decide_eq_decide.2 (by rw [List.mem_cons]; exact ⟨fun h => h.resolve_left fun h => e h.symm, Or.inr⟩)]
        exact ih (i + 1) hd
theorem l2In_val (l : List Int) (hl : l.length ≤ 9223372036854775807) (x : Int) : Ev (fun k => spec_l2In.f k l x) (decide (x ∈ l)) := l2In_loop l hl x l 0 rfl
end Go.Proofs.YtamjnninbdnjhaaDoor.Pu
namespace Go.Proofs.YtamjnninbdnjhaaDoor.Pu
open Go.RowKit Go.Proofs.YtamjnninbdnjhaaDoorW.PrintWords Go.Proofs.YtamjnninbdnjhaaDoorW.PrintLast Go.Proofs.YtamjnninbdnjhaaDoorW.PrintMore Go.Proofs.YtamjnninbdnjhaaDoor.Pr
theorem ev_fold {α β : Type} {g : Nat → α → Int → Option β} (f : Nat → α → α) (inv : Nat → α → Prop) {res : β} {N : Nat}
    (hs : ∀ i a, i < N → inv i a → Ev (fun k => g k (f i a) ((i + 1 : Nat) : Int)) res → Ev (fun k => g k a (i : Int)) res)
    (hp : ∀ i a, i < N → inv i a → inv (i + 1) (f i a)) :
    ∀ (d i : Nat) (a : α), i + d = N → inv i a → (∀ b, b = foldIdx f i N a → inv N b → Ev (fun k => g k b (N : Int)) res) → Ev (fun k => g k a (i : Int)) res := by
  intro d
  induction d with
  | zero =>
    intro i a h hi he
    obtain rfl : i = N := by omega
    exact he a (foldIdx_end f (Nat.le_refl _) a).symm hi
  | succ d ih =>
    intro i a h hi he
    refine hs i a (by omega) hi (ih (i + 1) (f i a) (by omega) (hp i a (by omega) hi) fun b hb hb' => he b ?_ hb')
    rw [hb, ← foldIdx_step f (by omega)]
theorem pow_256 {n : Nat} (h : n ≤ 8) : 2 ^ n ≤ 256 := show 2 ^ n ≤ 2 ^ 8 from Nat.pow_le_pow_right (by decide) h
theorem lt_256 {n a : Nat} (h : n ≤ 8) (ha : a < 2 ^ n) : a < 256 := Nat.lt_of_lt_of_le ha (pow_256 h)
/-- all elements of s are in t, as Go's & tells it -/
theorem and_is {a b : Nat} (ha : a < 256) (hb : b < 256) : (Go.bits .and .i64 (b : Int) (a : Int) = (a : Int)) ↔ sub a b = true := by
  rw [and_nat (by omega) (by omega), Nat.and_comm, Int.natCast_inj]
  unfold sub
  simp
theorem andNot_is {a b : Nat} (ha : a < 256) (hb : b < 256) : (Go.bits .andNot .i64 (a : Int) (b : Int) = 0) ↔ sub a b = true := by
  rw [andNot_nat (by omega) (by omega), ← diff_eq_zero]
  omega
def cast (R : List Nat) : List Int := R.map fun (x : Nat) => (x : Int)
theorem cast_length (R : List Nat) : (cast R).length = R.length := List.length_map ..
theorem rd_cast (R : List Nat) (i : Nat) : rd (cast R) (i : Int) = ((R.getD i 0 : Nat) : Int) := by
  rw [rd_nat]
  unfold cast
  rw [List.getD_eq_getElem?_getD, List.getD_eq_getElem?_getD, List.getElem?_map]
  cases R[i]? <;> rfl
theorem cast_of {l : List Int} (h : ∀ x ∈ l, 0 ≤ x) : l = cast (l.map Int.toNat) := by
  unfold cast
  rw [List.map_map]
  conv => lhs; rw [← List.map_id l]
  refine List.map_congr_left fun x hx => ?_
  have := h x hx
  simp [Int.toNat_of_nonneg this]
end Go.Proofs.YtamjnninbdnjhaaDoor.Pu
namespace Go.Proofs.YtamjnninbdnjhaaDoor.Pu
def full (n : Nat) : Nat := 2 ^ n - 1
theorem full_lt (n : Nat) : full n < 2 ^ n := by unfold full; have := Nat.two_pow_pos n; omega
def row (rows : List Nat) (g : Nat) : Nat := rows.getD g 0
def int (n : Nat) (rows : List Nat) (o : Nat) : Nat := ofBits (fun m => (List.range rows.length).all fun g => !o.testBit g || (row rows g).testBit m) n
end Go.Proofs.YtamjnninbdnjhaaDoor.Pu
namespace Go.Proofs.YtamjnninbdnjhaaDoor.Pu
open Go.RowKit Go.Proofs.YtamjnninbdnjhaaDoorW.PrintWords Go.Proofs.YtamjnninbdnjhaaDoorW.PrintLast Go.Proofs.YtamjnninbdnjhaaDoorW.PrintMore Go.Proofs.YtamjnninbdnjhaaDoor.Pr
theorem row_lt {R : List Nat} {q : Nat} (h : ∀ r ∈ R, r < 2 ^ q) (i : Nat) : row R i < 2 ^ q := by
  unfold row
  rw [List.getD_eq_getElem?_getD]
  cases h' : R[i]? with
  | none => exact Nat.two_pow_pos q
  | some x => exact h x (List.mem_of_getElem? h')
theorem rd_row (R : List Nat) (i : Nat) : rd (cast R) (i : Int) = ((row R i : Nat) : Int) := rd_cast R i
theorem inS_val {a b : Nat} (ha : a < 256) (hb : b < 256) : impl_inSet.f (a : Int) (b : Int) = some (sub a b) := by
  unfold impl_inSet.f
  refine congrArg some ?_
  rw [Bool.eq_iff_iff, beq_iff_eq]
  exact andNot_is ha hb
theorem fullI_val (n : Int) : impl_FullSet.f n = some (fullV n) := by
  unfold impl_FullSet.f fullV
  rw [within_val, Option.bind_some]
  by_cases h : 0 ≤ n ∧ n ≤ 8
  · rw [if_pos h, if_pos (decide_eq_true h), if_pos h.1, upper_val n h.1 h.2]
  · rw [if_neg h, if_neg (by simpa using h)]
theorem fullN {m : Nat} (h : m ≤ 8) : fullV (m : Int) = ((full m : Nat) : Int) := fullV_nat h
theorem uncast (R : List Nat) : (cast R).map Int.toNat = R := by
  unfold cast
  rw [List.map_map]
  conv => rhs; rw [← List.map_id R]
  exact List.map_congr_left fun x _ => by simp
theorem full_256 {m : Nat} (h : m ≤ 8) : full m < 256 := lt_256 h (full_lt m)
end Go.Proofs.YtamjnninbdnjhaaDoor.Pu
namespace Go.Proofs.YtamjnninbdnjhaaDoor.Pu
open Go.RowKit Go.Proofs.YtamjnninbdnjhaaDoorW.PrintWords Go.Proofs.YtamjnninbdnjhaaDoorW.PrintLast Go.Proofs.YtamjnninbdnjhaaDoorW.PrintMore Go.Proofs.YtamjnninbdnjhaaDoor.Pr
/-- A loop that leaves with 'false' at the first place where a test fails: all tests hold. -/
theorem ev_all_t {β : Type} {g : Nat → Int → Option β} (q : Nat → Bool) {N : Nat} {r : β} (hs : ∀ i, i < N → q i = true → Ev (fun k => g k ((i + 1 : Nat) : Int)) r → Ev (fun k => g k (i : Int)) r)
    (he : Ev (fun k => g k (N : Int)) r) : ∀ (d i : Nat), i + d = N → (List.range' i d).all q = true → Ev (fun k => g k (i : Int)) r := by
  intro d
  induction d with
  | zero => intro i h _; obtain rfl : i = N := by omega
            exact he
  | succ d ih =>
    intro i h ha
    rw [List.range'_succ, List.all_cons, Bool.and_eq_true] at ha
    exact hs i (by omega) ha.1 (ih (i + 1) (by omega) ha.2)
/-- .. and one fails. -/
theorem ev_all_f {β : Type} {g : Nat → Int → Option β} (q : Nat → Bool) {N : Nat} {r : β} (hs : ∀ i, i < N → q i = true → Ev (fun k => g k ((i + 1 : Nat) : Int)) r → Ev (fun k => g k (i : Int)) r)
    (hf : ∀ i, i < N → q i = false → Ev (fun k => g k (i : Int)) r) : ∀ (d i : Nat), i + d = N → (List.range' i d).all q = false → Ev (fun k => g k (i : Int)) r := by
  intro d
  induction d with
  | zero => intro i h ha; simp at ha
  | succ d ih =>
    intro i h ha
    rw [List.range'_succ, List.all_cons] at ha
    cases hq : q i with
    | false => exact hf i (by omega) hq
    | true =>
      rw [hq, Bool.true_and] at ha
      exact hs i (by omega) hq (ih (i + 1) (by omega) ha)
def fam1 (n : Int) (l : List Int) (i : Nat) : Bool := isSetB n (l.getD i 0) && (decide (i = 0) || befV (l.getD (i - 1) 0) (l.getD i 0))
def fam2 (l : List Int) (i j : Nat) : Bool := decide (Go.bits .and .i64 (l.getD i 0) (l.getD j 0) ∈ l)
def fam2s (l : List Int) (i : Nat) : Bool := (List.range' 0 i).all (fam2 l i)
def famV (n : Int) (l : List Int) : Bool := decide (0 ≤ n ∧ n ≤ 6) && (decide (fullV n ∈ l) && ((List.range' 0 l.length).all (fam1 n l) && (List.range' 0 l.length).all (fam2s l)))
theorem all_and {α : Type} (p q : α → Bool) : ∀ l : List α, (l.all fun x => p x && q x) = (l.all p && l.all q)
  | [] => rfl
  | x :: l => by
    rw [List.all_cons, List.all_cons, List.all_cons, all_and p q l]
    cases p x <;> cases q x <;> simp
theorem wrap_pred {i : Nat} (h0 : 0 < i) (h : i ≤ 1048576) : wrap64 ((i : Int) - 1) = ((i - 1 : Nat) : Int) := by unfold wrap64; omega
theorem fam1_set {n : Int} {l : List Int} {i : Nat} (h : fam1 n l i = true) : isSetB n (l.getD i 0) = true ∧ (0 < i → befV (l.getD (i - 1) 0) (l.getD i 0) = true) := by
  unfold fam1 at h
  rw [Bool.and_eq_true, Bool.or_eq_true] at h
  exact ⟨h.1, fun h0 => h.2.resolve_left fun e => by have := of_decide_eq_true e; omega⟩
theorem fam1_not {n : Int} {l : List Int} {i : Nat} (h : fam1 n l i = false) : isSetB n (l.getD i 0) = false ∨ (isSetB n (l.getD i 0) = true ∧ 0 < i ∧ befV (l.getD (i - 1) 0) (l.getD i 0) = false) := by
  unfold fam1 at h
  cases e : isSetB n (l.getD i 0) with
  | false => exact .inl rfl
  | true =>
    rw [e, Bool.true_and, Bool.or_eq_false_iff] at h
    exact .inr ⟨rfl, by have := of_decide_eq_false h.1; omega, h.2⟩
theorem famS_in {l : List Int} (hl : l.length ≤ 1048576) {i : Nat} (hi : i < l.length) (r : Bool) : ∀ j, j < i → fam2 l i j = true → Ev (fun k => spec_IsClosureFamily.l2 k l (i : Int) ((j + 1 : Nat) : Int)) r → Ev (fun k => spec_IsClosureFamily.l2 k l (i : Int) (j : Int)) r := by
  intro j hj hq h
  refine Ev.step (f := fun k => (spec_l2In.f k l (Go.bits .and .i64 (l.getD i 0) (l.getD j 0))).bind fun t => if t = true then spec_IsClosureFamily.l2 k l (i : Int) ((j + 1 : Nat) : Int) else some false) (fun k => ?_) ?_
  · simp only [spec_IsClosureFamily.l2]
    rw [if_pos (by omega), if_pos (by omega), if_pos (by omega), if_pos (by omega), if_pos (by omega), rd_nat, rd_nat, wrap_succ hj (by omega)]
  · refine Ev.bind (l2In_val l (by omega) _) ?_
    rw [show decide (Go.bits .and .i64 (l.getD i 0) (l.getD j 0) ∈ l) = true from hq]
    exact Ev.congr (fun k => by rw [if_pos rfl]) h
theorem famS_out {l : List Int} (hl : l.length ≤ 1048576) {i : Nat} (hi : i < l.length) : ∀ j, j < i → fam2 l i j = false → Ev (fun k => spec_IsClosureFamily.l2 k l (i : Int) (j : Int)) false := by
  intro j hj hq
  refine Ev.step (f := fun k => (spec_l2In.f k l (Go.bits .and .i64 (l.getD i 0) (l.getD j 0))).bind fun t => if t = true then spec_IsClosureFamily.l2 k l (i : Int) ((j + 1 : Nat) : Int) else some false) (fun k => ?_) ?_
  · simp only [spec_IsClosureFamily.l2]
    rw [if_pos (by omega), if_pos (by omega), if_pos (by omega), if_pos (by omega), if_pos (by omega), rd_nat, rd_nat, wrap_succ hj (by omega)]
  · refine Ev.bind (l2In_val l (by omega) _) ?_
    rw [show decide (Go.bits .and .i64 (l.getD i 0) (l.getD j 0) ∈ l) = false from hq]
    exact Ev.congr (fun k => by rw [if_neg (by decide)]) (Ev.now false)
theorem famS_two (l : List Int) (hl : l.length ≤ 1048576) : Ev (fun k => spec_IsClosureFamily.l1 k l 0) ((List.range' 0 l.length).all (fam2s l)) := by
  have hs : ∀ (r : Bool) i, i < l.length → fam2s l i = true → Ev (fun k => spec_IsClosureFamily.l1 k l ((i + 1 : Nat) : Int)) r → Ev (fun k => spec_IsClosureFamily.l1 k l (i : Int)) r := by
    intro r i hi hq h
    refine Ev.step (f := fun k => spec_IsClosureFamily.l2 k l (i : Int) 0) (fun k => by simp only [spec_IsClosureFamily.l1]; rw [if_pos (by omega)]) ?_
    refine ev_all_t (g := fun k x => spec_IsClosureFamily.l2 k l (i : Int) x) (fam2 l i) (N := i) (famS_in hl hi r) ?_ i 0 (by omega) hq
    exact Ev.step (f := fun k => spec_IsClosureFamily.l1 k l ((i + 1 : Nat) : Int)) (fun k => by simp only [spec_IsClosureFamily.l2]; rw [if_neg (by omega), wrap_succ hi (by omega)]) h
  cases e : (List.range' 0 l.length).all (fam2s l) with
  | true =>
    refine ev_all_t (g := fun k x => spec_IsClosureFamily.l1 k l x) (fam2s l) (N := l.length) (hs true) ?_ l.length 0 (by omega) e
    exact Ev.step (f := fun k => some true) (fun k => by simp only [spec_IsClosureFamily.l1]; rw [if_neg (by omega)]) (Ev.now true)
  | false =>
    refine ev_all_f (g := fun k x => spec_IsClosureFamily.l1 k l x) (fam2s l) (N := l.length) (hs false) ?_ l.length 0 (by omega) e
    intro i hi hq
    refine Ev.step (f := fun k => spec_IsClosureFamily.l2 k l (i : Int) 0) (fun k => by simp only [spec_IsClosureFamily.l1]; rw [if_pos (by omega)]) ?_
    exact ev_all_f (g := fun k x => spec_IsClosureFamily.l2 k l (i : Int) x) (fam2 l i) (N := i) (famS_in hl hi false) (famS_out hl hi) i 0 (by omega) hq
theorem famS_val (n : Int) (l : List Int) (hl : l.length ≤ 1048576) : Ev (fun k => spec_IsClosureFamily.f k n l) (famV n l) := by
  unfold spec_IsClosureFamily.f famV
  have hF : Ev (fun k => spec_IsClosureFamily.j0 k n l true) false := Ev.step (f := fun k => some false) (fun k => by simp [spec_IsClosureFamily.j0]) (Ev.now false)
  rw [l1In_val]
  simp only [Option.bind_some]
  by_cases h0 : 0 ≤ n ∧ n ≤ 6
  rotate_left
  · rw [decide_eq_false h0, Bool.false_and]
    exact Ev.congr (fun k => by rw [if_neg (by decide)]) hF
  rw [decide_eq_true h0, Bool.true_and, fullS_val]
  simp only [Option.bind_some]
  refine Ev.congr (fun k => by rw [if_pos trivial]) ?_
  refine Ev.bind (l2In_val l (by omega) _) ?_
  by_cases hfu : fullV n ∈ l
  rotate_left
  · rw [decide_eq_false hfu, Bool.false_and]
    exact hF
  rw [decide_eq_true hfu, Bool.true_and]
  refine Ev.step (f := fun k => spec_IsClosureFamily.l0 k n l 0) (fun k => by simp [spec_IsClosureFamily.j0]) ?_
  have hs : ∀ (r : Bool) i, i < l.length → fam1 n l i = true → Ev (fun k => spec_IsClosureFamily.l0 k n l ((i + 1 : Nat) : Int)) r → Ev (fun k => spec_IsClosureFamily.l0 k n l (i : Int)) r := by
    intro r i hi hq h
    obtain ⟨h1, h2⟩ := fam1_set hq
    refine Ev.step (fun k => ?_) h
    simp only [spec_IsClosureFamily.l0]
    rw [if_pos (by omega), if_pos (by omega), rd_nat, specSet_val]
    simp only [Option.bind_some]
    rw [if_pos h1]
    by_cases hz : 0 < i
    · rw [if_pos (by omega), wrap_pred hz (by omega), if_pos (by omega), if_pos (by omega), rd_nat, befS_val]
      simp only [Option.bind_some]
      rw [if_pos (h2 hz), wrap_succ hi (by omega)]
    · rw [if_neg (by omega), wrap_succ hi (by omega)]
  cases e : (List.range' 0 l.length).all (fam1 n l) with
  | true =>
    rw [Bool.true_and]
    refine ev_all_t (g := fun k x => spec_IsClosureFamily.l0 k n l x) (fam1 n l) (N := l.length) (hs _) ?_ l.length 0 (by omega) e
    exact Ev.step (f := fun k => spec_IsClosureFamily.l1 k l 0) (fun k => by simp only [spec_IsClosureFamily.l0]; rw [if_neg (by omega)]) (famS_two l hl)
  | false =>
    rw [Bool.false_and]
    refine ev_all_f (g := fun k x => spec_IsClosureFamily.l0 k n l x) (fam1 n l) (N := l.length) (hs false) ?_ l.length 0 (by omega) e
    intro i hi hq
    refine Ev.step (f := fun k => some false) (fun k => ?_) (Ev.now false)
    simp only [spec_IsClosureFamily.l0]
    rw [if_pos (by omega), if_pos (by omega), rd_nat, specSet_val]
    simp only [Option.bind_some]
    rcases fam1_not hq with h1 | ⟨h1, hz, h2⟩
    · rw [if_neg (by rw [h1]; decide)]
    · rw [if_pos h1, if_pos (by omega), wrap_pred hz (by omega), if_pos (by omega), if_pos (by omega), rd_nat, befS_val]
      simp only [Option.bind_some]
      rw [if_neg (by rw [h2]; decide)]
theorem getD_take {l : List Int} {i j : Nat} (h : j < i) : (l.take i).getD j 0 = l.getD j 0 := by
  rw [List.getD_eq_getElem?_getD, List.getD_eq_getElem?_getD, List.getElem?_take, if_pos h]
theorem famI_in {n : Int} {l : List Int} (hl : l.length ≤ 1048576) {i : Nat} (hi : i < l.length) (r : Bool) (c : Bool) (hc : c = false → r = false) : ∀ j, j < i → fam2 l i j = c → Ev (fun k => impl_IsClosureFamily.l1 k n l (l.getD i 0) l (l.length : Int) (i : Int) (l.take i) ((i : Nat) : Int) ((j + 1 : Nat) : Int)) r → Ev (fun k => impl_IsClosureFamily.l1 k n l (l.getD i 0) l (l.length : Int) (i : Int) (l.take i) ((i : Nat) : Int) (j : Int)) r := by
  intro j hj hq h
  refine Ev.step (f := fun k => (slices_Contains_int.f k l (Go.bits .and .i64 (l.getD i 0) (l.getD j 0))).bind fun t => if t = true then impl_IsClosureFamily.l1 k n l (l.getD i 0) l (l.length : Int) (i : Int) (l.take i) ((i : Nat) : Int) ((j + 1 : Nat) : Int) else some false) (fun k => ?_) ?_
  · simp only [impl_IsClosureFamily.l1]
    rw [if_pos (by omega), if_pos (by omega), if_pos (by rw [List.length_take]; omega), rd_nat, getD_take hj, wrap_succ hj (by omega)]
  · refine Ev.bind (containsI_val l (by omega) _) ?_
    rw [show decide (Go.bits .and .i64 (l.getD i 0) (l.getD j 0) ∈ l) = c from hq]
    cases c with
    | true => exact Ev.congr (fun k => by rw [if_pos rfl]) h
    | false =>
      rw [hc rfl]
      exact Ev.congr (fun k => by rw [if_neg (by decide)]) (Ev.now false)
theorem famI_out {n : Int} {l : List Int} (hl : l.length ≤ 1048576) {i : Nat} (hi : i < l.length) : ∀ j, j < i → fam2 l i j = false → Ev (fun k => impl_IsClosureFamily.l1 k n l (l.getD i 0) l (l.length : Int) (i : Int) (l.take i) ((i : Nat) : Int) (j : Int)) false := by
  intro j hj hq
  refine Ev.step (f := fun k => (slices_Contains_int.f k l (Go.bits .and .i64 (l.getD i 0) (l.getD j 0))).bind fun t => if t = true then impl_IsClosureFamily.l1 k n l (l.getD i 0) l (l.length : Int) (i : Int) (l.take i) ((i : Nat) : Int) ((j + 1 : Nat) : Int) else some false) (fun k => ?_) ?_
  · simp only [impl_IsClosureFamily.l1]
    rw [if_pos (by omega), if_pos (by omega), if_pos (by rw [List.length_take]; omega), rd_nat, getD_take hj, wrap_succ hj (by omega)]
  · refine Ev.bind (containsI_val l (by omega) _) ?_
    rw [show decide (Go.bits .and .i64 (l.getD i 0) (l.getD j 0) ∈ l) = false from hq]
    exact Ev.congr (fun k => by rw [if_neg (by decide)]) (Ev.now false)
/-- what the program's loop does at one place, its tests passed -/
theorem famI_at {n : Int} {l : List Int} (hl : l.length ≤ 1048576) {i : Nat} (hi : i < l.length) (c r : Bool) (hq : fam1 n l i = c)
    (h : if c = true then Ev (fun k => impl_IsClosureFamily.l1 k n l (l.getD i 0) l (l.length : Int) (i : Int) (l.take i) ((i : Nat) : Int) 0) r else r = false) : Ev (fun k => impl_IsClosureFamily.l0 k n l l (l.length : Int) (i : Int)) r := by
  have hj : Ev (fun k => impl_IsClosureFamily.j2 k n l (i : Int) (l.getD i 0) l (l.length : Int) (i : Int) (!c)) r := by
    cases c with
    | true =>
      rw [if_pos rfl] at h
      refine Ev.step (fun k => ?_) h
      simp only [impl_IsClosureFamily.j2]
      rw [if_neg (by decide), if_pos (by omega), if_pos (by omega), Int.toNat_natCast, List.length_take, Nat.min_eq_left (by omega)]
    | false =>
      rw [if_neg (by decide)] at h
      rw [h]
      exact Ev.step (f := fun k => some false) (fun k => by simp [impl_IsClosureFamily.j2]) (Ev.now false)
  unfold fam1 at hq
  by_cases hz : 0 < i
  · cases e1 : isSetB n (l.getD i 0) with
    | true =>
      rw [e1, Bool.true_and, decide_eq_false (by omega), Bool.false_or] at hq
      refine Ev.step (f := fun k => (impl_BeforeSet.f k (l.getD (i - 1) 0) (l.getD i 0)).bind fun t => impl_IsClosureFamily.j2 k n l (i : Int) (l.getD i 0) l (l.length : Int) (i : Int) (!t)) (fun k => ?_) (Ev.bind (befI_val _ _) (by rw [hq]; exact hj))
      simp only [impl_IsClosureFamily.l0]
      rw [if_pos (by omega), if_pos (by omega), if_pos (by omega), rd_nat, set_val]
      simp only [Option.bind_some]
      rw [if_pos e1, if_pos (by omega), wrap_pred hz (by omega), if_pos (by omega), if_pos (by omega), rd_nat]
    | false =>
      rw [e1, Bool.false_and] at hq
      subst hq
      refine Ev.step (fun k => ?_) hj
      simp only [impl_IsClosureFamily.l0]
      rw [if_pos (by omega), if_pos (by omega), if_pos (by omega), rd_nat, set_val]
      simp only [Option.bind_some]
      rw [if_neg (by rw [e1]; decide)]
      rfl
  · rw [decide_eq_true (by omega), Bool.true_or, Bool.and_true] at hq
    refine Ev.step (fun k => ?_) hj
    simp only [impl_IsClosureFamily.l0]
    rw [if_pos (by omega), if_pos (by omega), if_pos (by omega), rd_nat, set_val]
    simp only [Option.bind_some]
    rw [hq]
    cases c with
    | true => rw [if_pos rfl, if_neg (by omega)]; rfl
    | false => rw [if_neg (by decide)]; rfl
theorem famI_val (n : Int) (l : List Int) (hl : l.length ≤ 1048576) : Ev (fun k => impl_IsClosureFamily.f k n l) (famV n l) := by
  unfold impl_IsClosureFamily.f famV
  have hF : Ev (fun k => impl_IsClosureFamily.j0 k n l true) false := Ev.step (f := fun k => some false) (fun k => by simp [impl_IsClosureFamily.j0]) (Ev.now false)
  rw [within_val]
  simp only [Option.bind_some]
  by_cases h0 : 0 ≤ n ∧ n ≤ 6
  rotate_left
  · rw [decide_eq_false h0, Bool.false_and]
    exact Ev.congr (fun k => by rw [if_neg (by decide)]) hF
  rw [decide_eq_true h0, Bool.true_and, fullI_val]
  simp only [Option.bind_some]
  refine Ev.congr (fun k => by rw [if_pos trivial]) ?_
  refine Ev.bind (containsI_val l (by omega) _) ?_
  by_cases hfu : fullV n ∈ l
  rotate_left
  · rw [decide_eq_false hfu, Bool.false_and]
    exact hF
  rw [decide_eq_true hfu, Bool.true_and]
  refine Ev.step (f := fun k => impl_IsClosureFamily.l0 k n l l (l.length : Int) 0) (fun k => by simp [impl_IsClosureFamily.j0]) ?_
  have hs : ∀ (r : Bool) i, i < l.length → (fam1 n l i && fam2s l i) = true → Ev (fun k => impl_IsClosureFamily.l0 k n l l (l.length : Int) ((i + 1 : Nat) : Int)) r → Ev (fun k => impl_IsClosureFamily.l0 k n l l (l.length : Int) (i : Int)) r := by
    intro r i hi hq h
    rw [Bool.and_eq_true] at hq
    refine famI_at hl hi true r hq.1 ?_
    rw [if_pos rfl]
    refine ev_all_t (g := fun k x => impl_IsClosureFamily.l1 k n l (l.getD i 0) l (l.length : Int) (i : Int) (l.take i) ((i : Nat) : Int) x) (fam2 l i) (N := i) (fun j hj hj2 => famI_in hl hi r true (fun e => by cases e) j hj hj2) ?_ i 0 (by omega) hq.2
    exact Ev.step (fun k => by simp only [impl_IsClosureFamily.l1]; rw [if_neg (by omega), wrap_succ hi (by omega)]) h
  rw [← all_and]
  cases e : (List.range' 0 l.length).all (fun i => fam1 n l i && fam2s l i) with
  | true =>
    refine ev_all_t (g := fun k x => impl_IsClosureFamily.l0 k n l l (l.length : Int) x) _ (N := l.length) (hs true) ?_ l.length 0 (by omega) e
    exact Ev.step (f := fun k => some true) (fun k => by simp only [impl_IsClosureFamily.l0]; rw [if_neg (by omega)]) (Ev.now true)
  | false =>
    refine ev_all_f (g := fun k x => impl_IsClosureFamily.l0 k n l l (l.length : Int) x) _ (N := l.length) (hs false) ?_ l.length 0 (by omega) e
    intro i hi hq
    cases e1 : fam1 n l i with
    | false => exact famI_at hl hi false false e1 rfl
    | true =>
      rw [e1, Bool.true_and] at hq
      refine famI_at hl hi true false e1 ?_
      rw [if_pos rfl]
      exact ev_all_f (g := fun k x => impl_IsClosureFamily.l1 k n l (l.getD i 0) l (l.length : Int) (i : Int) (l.take i) ((i : Nat) : Int) x) (fam2 l i) (N := i) (fun j hj hj2 => famI_in hl hi false true (fun e => by cases e) j hj hj2) (famI_out hl hi) i 0 (by omega) hq
end Go.Proofs.YtamjnninbdnjhaaDoor.Pu
namespace Go.Proofs.YtamjnninbdnjhaaDoor.Pu
open Go.RowKit Go.Proofs.YtamjnninbdnjhaaDoorW.PrintWords Go.Proofs.YtamjnninbdnjhaaDoorW.PrintLast Go.Proofs.YtamjnninbdnjhaaDoorW.PrintMore Go.Proofs.YtamjnninbdnjhaaDoor.Pr
/-- a set of a list that is another one and has all of s takes part -/
def byStep (L : List Nat) (s i f : Nat) : Nat := if row L i ≠ s ∧ sub s (row L i) = true then f &&& row L i else f
def bey (L : List Nat) (s f : Nat) : Nat := foldIdx (byStep L s) 0 L.length f
theorem byStep_le (L : List Nat) (s i f : Nat) : byStep L s i f ≤ f := by
  unfold byStep
  split
  · exact Nat.and_le_left
  · exact Nat.le_refl _
theorem beyI_big (L : List Nat) (hl : L.length ≤ 1048576) (hL : ∀ i, row L i < 256) (s f : Nat) (hs : s < 256) (hf : f < 256) : Ev (fun k => impl_beyond.f k (cast L) (s : Int) (f : Int)) ((bey L s f : Nat) : Int) := by
  unfold impl_beyond.f
  refine ev_fold (g := fun k (a : Nat) i => impl_beyond.l0 k (s : Int) (a : Int) (cast L) ((cast L).length : Int) i) (byStep L s) (fun _ a => a < 256) (N := L.length) ?_ (fun i a _ h => Nat.lt_of_le_of_lt (byStep_le L s i a) h) L.length 0 f (by omega) hf ?_
  · intro i a hi ha h
    refine Ev.step (fun k => ?_) h
    simp only [impl_beyond.l0]
    rw [if_pos (by rw [cast_length]; omega), if_pos (by omega), if_pos (by rw [cast_length]; omega), rd_row, wrap_succ hi (by omega)]
    unfold byStep
    by_cases h1 : row L i = s
    · rw [if_pos (by rw [h1]), if_neg (fun h => h.1 h1)]
    · rw [if_neg (by omega), inS_val hs (hL i), Option.bind_some]
      by_cases h2 : sub s (row L i) = true
      · rw [if_pos h2, if_pos ⟨h1, h2⟩, and_nat (by omega) (by have := hL i; omega)]
      · rw [if_neg h2, if_neg (fun h => h2 h.2)]
  · intro b hb _
    refine Ev.step (f := fun _ => some (b : Int)) (fun k => ?_) ?_
    · simp only [impl_beyond.l0]
      rw [if_neg (by rw [cast_length]; omega)]
    · rw [hb]; exact Ev.now _
end Go.Proofs.YtamjnninbdnjhaaDoor.Pu
