/- What the law needs of the program's functions as plain functions, of the proofs that their calls answer so, and of plain laws: gathered by a program of this place (pack.py) out of its printed texts. No condition beyond what each statement says. -/
import Derived.Test.YtamjnninbdnjhaaZXProofOf1
import Derived.Laws.BitsLemmas
import Derived.RowKit
import Derived.Test.YtamjnninbdnjhaaZXProofOf2
import Derived.Test.YtamjnninbdnjhaaZXProofOf3
import Derived.Test.YtamjnninbdnjhaaZXProofOf5
import Derived.Test.YtamjnninbdnjhaaZXProofOf8
import Derived.Test.YtamjnninbdnjhaaZXProofOf7
import Derived.Test.YtamjnninbdnjhaaZXProofOf4
import Derived.Test.YtamjnninbdnjhaaZXProofOf6
import Derived.Deep.Slices
import Derived.WideShapes
import Derived.ProofKit
import Derived.SizedLaws
namespace Go.Proofs.Ytamjnninbdnjhaa.Pu
/-- all elements of a are in b -/
def sub (a b : Nat) : Bool := a &&& b == a
theorem sub_iff {a b : Nat} : sub a b = true ↔ ∀ i, a.testBit i = true → b.testBit i = true := by
  unfold sub
  rw [beq_iff_eq]
  constructor
  · intro h i hi
    rw [← h, Nat.testBit_and] at hi
    exact (Bool.and_eq_true_iff.1 hi).2
  · intro h
    apply Nat.eq_of_testBit_eq
    intro i
    rw [Nat.testBit_and]
    cases ha : a.testBit i with
    | false => rfl
    | true => rw [h i ha]; rfl
theorem sub_refl (a : Nat) : sub a a = true := by simp [sub]
theorem sub_trans {a b c : Nat} (h : sub a b = true) (k : sub b c = true) : sub a c = true :=
  sub_iff.2 fun i hi => sub_iff.1 k i (sub_iff.1 h i hi)
theorem sub_antisymm {a b : Nat} (h : sub a b = true) (k : sub b a = true) : a = b := by
  apply Nat.eq_of_testBit_eq
  intro i
  rw [Bool.eq_iff_iff]
  exact ⟨sub_iff.1 h i, sub_iff.1 k i⟩
theorem sub_or_left (a b : Nat) : sub a (a ||| b) = true := sub_iff.2 fun i hi => by rw [Nat.testBit_or, hi]; rfl
theorem sub_or_right (a b : Nat) : sub b (a ||| b) = true := sub_iff.2 fun i hi => by rw [Nat.testBit_or, hi]; simp
theorem or_sub {a b c : Nat} (h : sub a c = true) (k : sub b c = true) : sub (a ||| b) c = true := sub_iff.2 fun i hi => by
  rw [Nat.testBit_or, Bool.or_eq_true] at hi
  rcases hi with hi | hi
  · exact sub_iff.1 h i hi
  · exact sub_iff.1 k i hi
theorem sub_le {a b : Nat} (h : sub a b = true) : a ≤ b := by
  have : a &&& b = a := by simpa [sub] using h
  rw [← this]; exact Nat.and_le_right
/-- the elements of a that are not in b -/
def diff (a b : Nat) : Nat := a ^^^ (a &&& b)
theorem testBit_diff (a b i : Nat) : (diff a b).testBit i = (a.testBit i && !b.testBit i) := by
  unfold diff
  rw [Nat.testBit_xor, Nat.testBit_and]
  cases a.testBit i <;> cases b.testBit i <;> rfl
theorem diff_eq_zero {a b : Nat} : diff a b = 0 ↔ sub a b = true := by
  constructor
  · intro h
    refine sub_iff.2 fun i hi => ?_
    have := testBit_diff a b i
    rw [h, hi] at this
    simpa using this
  · intro h
    apply Nat.eq_of_testBit_eq
    intro i
    rw [testBit_diff, Nat.zero_testBit]
    cases ha : a.testBit i with
    | false => rfl
    | true => rw [sub_iff.1 h i ha]; rfl
abbrev Rules := List (Nat × Nat)
/-- one step: the set with the conclusions of all rules whose premises it has -/
def step (R : Rules) (s : Nat) : Nat := R.foldl (fun o r => if sub r.1 s then o ||| r.2 else o) s
def resp (R : Rules) (s : Nat) : Prop := ∀ r ∈ R, sub r.1 s = true → sub r.2 s = true
theorem fold_spec (R : Rules) (s : Nat) : ∀ o, sub o (R.foldl (fun o r => if sub r.1 s then o ||| r.2 else o) o) = true ∧
    (∀ r ∈ R, sub r.1 s = true → sub r.2 (R.foldl (fun o r => if sub r.1 s then o ||| r.2 else o) o) = true) ∧
    (∀ t, sub o t = true → (∀ r ∈ R, sub r.1 s = true → sub r.2 t = true) → sub (R.foldl (fun o r => if sub r.1 s then o ||| r.2 else o) o) t = true) := by
  induction R with
  | nil => intro o; exact ⟨sub_refl _, by simp, fun t h _ => h⟩
  | cons r R ih =>
    intro o
    rw [List.foldl_cons]
    obtain ⟨h1, h2, h3⟩ := ih (if sub r.1 s then o ||| r.2 else o)
    refine ⟨?_, ?_, ?_⟩
    · refine sub_trans ?_ h1
      split
      · exact sub_or_left _ _
      · exact sub_refl _
    · intro q hq hs
      rcases List.mem_cons.1 hq with rfl | hq
      · refine sub_trans ?_ h1
        rw [if_pos hs]; exact sub_or_right _ _
      · exact h2 q hq hs
    · intro t ht hr
      refine h3 t ?_ (fun q hq => hr q (List.mem_cons_of_mem _ hq))
      split
      · rename_i h; exact or_sub ht (hr r List.mem_cons_self h)
      · exact ht
theorem sub_step (R : Rules) (s : Nat) : sub s (step R s) = true := (fold_spec R s s).1
theorem step_le_of {R : Rules} {s t : Nat} (h : sub s t = true) (hr : resp R t) : sub (step R s) t = true :=
  (fold_spec R s s).2.2 t h fun r hr' hs => hr r hr' (sub_trans hs h)
theorem step_fix {R : Rules} {s : Nat} : step R s = s ↔ resp R s := by
  constructor
  · intro h r hr hs
    have := (fold_spec R s s).2.1 r hr hs
    rw [show R.foldl (fun o r => if sub r.1 s then o ||| r.2 else o) s = step R s from rfl, h] at this
    exact this
  · intro h
    exact sub_antisymm (step_le_of (sub_refl s) h) (sub_step R s)
def iter (R : Rules) : Nat → Nat → Nat
  | 0, s => s
  | k + 1, s => iter R k (step R s)
/-- the least superset that respects the rules (all sets below 256) -/
def clo (R : Rules) (s : Nat) : Nat := iter R 256 s
def small (R : Rules) : Prop := ∀ r ∈ R, r.1 < 256 ∧ r.2 < 256
theorem step_lt {R : Rules} {s : Nat} (hR : small R) (hs : s < 256) : step R s < 256 := by
  have h := (fold_spec R s s).2.2 255 (sub_iff.2 fun i hi => ?_) (fun r hr _ => sub_iff.2 fun i hi => ?_)
  · have := sub_le h; unfold step; omega
  all_goals
    have : i < 8 := by
      rcases Nat.lt_or_ge i 8 with h | h
      · exact h
      · exfalso
        rw [Nat.testBit_lt_two_pow] at hi
        · cases hi
        · have h8 : 2 ^ 8 ≤ 2 ^ i := Nat.pow_le_pow_right (by decide) h
          first | omega | (have := (hR r hr).2; omega)
    rw [show (255 : Nat) = 2 ^ 8 - 1 from rfl, Nat.testBit_two_pow_sub_one]
    simpa using this
theorem iter_spec {R : Rules} (hR : small R) : ∀ k s, s < 256 → 256 ≤ s + k → (iter R k s < 256 ∧ sub s (iter R k s) = true ∧ resp R (iter R k s) ∧ ∀ t, sub s t = true → resp R t → sub (iter R k s) t = true) := by
  intro k
  induction k with
  | zero => intro s hs h; omega
  | succ k ih =>
    intro s hs h
    rw [iter]
    by_cases e : step R s = s
    · rw [e]
      have : ∀ k, iter R k s = s := by
        intro k
        induction k with
        | zero => rfl
        | succ k ih => rw [iter, e, ih]
      rw [this]
      exact ⟨hs, sub_refl s, step_fix.1 e, fun t ht _ => ht⟩
    · have hlt : s < step R s := by have := sub_le (sub_step R s); omega
      obtain ⟨h1, h2, h3, h4⟩ := ih (step R s) (step_lt hR hs) (by omega)
      exact ⟨h1, sub_trans (sub_step R s) h2, h3, fun t ht hr => h4 t (step_le_of ht hr) hr⟩
theorem clo_spec {R : Rules} (hR : small R) {s : Nat} (hs : s < 256) : clo R s < 256 ∧ sub s (clo R s) = true ∧ resp R (clo R s) ∧ ∀ t, sub s t = true → resp R t → sub (clo R s) t = true :=
  iter_spec hR 256 s hs (by omega)
theorem clo_unique {R : Rules} (hR : small R) {s r : Nat} (hs : s < 256) (h1 : sub s r = true) (h2 : resp R r) (h3 : ∀ t, sub s t = true → resp R t → sub r t = true) : r = clo R s :=
  sub_antisymm (h3 _ (clo_spec hR hs).2.1 (clo_spec hR hs).2.2.1) ((clo_spec hR hs).2.2.2 r h1 h2)
theorem clo_of_between {R : Rules} (hR : small R) {s u : Nat} (hs : s < 256) (hu : u < 256) (h1 : sub s u = true) (h2 : ∀ t, sub s t = true → resp R t → sub u t = true) : clo R u = clo R s := by
  obtain ⟨_, b, c, d⟩ := clo_spec hR hu
  exact clo_unique hR hs (sub_trans h1 b) c fun t ht hr => d t (h2 t ht hr) hr
theorem clo_fix {R : Rules} (hR : small R) {s : Nat} (hs : s < 256) : clo R s = s ↔ resp R s := by
  constructor
  · intro h; have := (clo_spec hR hs).2.2.1; rwa [h] at this
  · intro h; exact (clo_unique hR hs (sub_refl s) h (fun t ht _ => ht)).symm
theorem clo_step {R : Rules} (hR : small R) {s : Nat} (hs : s < 256) : clo R (step R s) = clo R s :=
  clo_of_between hR hs (step_lt hR hs) (sub_step R s) (fun _ ht hr => step_le_of ht hr)
/-- one sweep over the rules, the set growing as it goes -/
def sweep (R : Rules) (p : Nat × Bool) : Nat × Bool := R.foldl (fun p r => if sub r.1 p.1 && !sub r.2 p.1 then (p.1 ||| r.2, true) else p) p
theorem sweep_spec (R : Rules) : ∀ (p : Nat × Bool), sub p.1 (sweep R p).1 = true ∧ ((∀ r ∈ R, r.2 < 256) → p.1 < 256 → (sweep R p).1 < 256) ∧
    (∀ t, sub p.1 t = true → resp R t → sub (sweep R p).1 t = true) ∧
    ((sweep R p).2 = false → p.2 = false ∧ (sweep R p).1 = p.1 ∧ resp R p.1) ∧
    (p.2 = false → (sweep R p).2 = true → p.1 < (sweep R p).1) := by
  induction R with
  | nil => intro p; exact ⟨sub_refl _, fun _ h => h, fun t h _ => h, fun h => ⟨h, rfl, fun r hr => by simp at hr⟩, fun h h' => by rw [show sweep [] p = p from rfl, h] at h'; cases h'⟩
  | cons r R ih =>
    intro p
    rw [show sweep (r :: R) p = sweep R (if sub r.1 p.1 && !sub r.2 p.1 then (p.1 ||| r.2, true) else p) from rfl]
    by_cases hc : (sub r.1 p.1 && !sub r.2 p.1) = true
    · rw [if_pos hc]
      rw [Bool.and_eq_true] at hc
      obtain ⟨hc1, hc2⟩ := hc
      obtain ⟨a, b, c, d, e⟩ := ih (p.1 ||| r.2, true)
      have hlt : p.1 < p.1 ||| r.2 := by
        have h1 := sub_le (sub_or_left p.1 r.2)
        rcases Nat.lt_or_ge p.1 (p.1 ||| r.2) with h | h
        · exact h
        · have he : p.1 ||| r.2 = p.1 := Nat.le_antisymm h h1
          have := sub_or_right p.1 r.2
          rw [he] at this
          rw [this] at hc2; cases hc2
      refine ⟨sub_trans (sub_or_left _ _) a, fun h hp => b (fun q hq => h q (List.mem_cons_of_mem _ hq)) (Nat.or_lt_two_pow (n := 8) hp (h r List.mem_cons_self)), ?_, ?_, ?_⟩
      · intro t ht hr
        exact c t (or_sub ht (hr r List.mem_cons_self (sub_trans hc1 ht))) (fun q hq => hr q (List.mem_cons_of_mem _ hq))
      · intro h
        have := (d h).1
        cases this
      · intro _ _
        exact Nat.lt_of_lt_of_le hlt (sub_le a)
    · rw [if_neg hc]
      obtain ⟨a, b, c, d, e⟩ := ih p
      refine ⟨a, fun h hp => b (fun q hq => h q (List.mem_cons_of_mem _ hq)) hp, fun t ht hr => c t ht (fun q hq => hr q (List.mem_cons_of_mem _ hq)), ?_, e⟩
      intro h
      obtain ⟨d1, d2, d3⟩ := d h
      refine ⟨d1, d2, fun q hq hs => ?_⟩
      rcases List.mem_cons.1 hq with rfl | hq
      · rw [hs, Bool.true_and] at hc
        simpa using hc
      · exact d3 q hq hs
end Go.Proofs.Ytamjnninbdnjhaa.Pu
namespace Go.Proofs.Ytamjnninbdnjhaa.Pu
open Go.RowKit Go.Proofs.YtamjnninbdnjhaaW.PrintWords
theorem wraps_i64 (n : Int) (h₀ : 0 ≤ n) (h₁ : n < 2 ^ 63) : IntKind.i64.wrap n = n := by rw [IntKind.wrap_i64]; omega
theorem and_nat {a b : Nat} (ha : a < 2 ^ 63) (hb : b < 2 ^ 63) : Go.bits .and .i64 (a : Int) (b : Int) = ((a &&& b : Nat) : Int) := (bits_nat .i64 63 (by decide) wraps_i64 a b ha hb).1
theorem or_nat {a b : Nat} (ha : a < 2 ^ 63) (hb : b < 2 ^ 63) : Go.bits .or .i64 (a : Int) (b : Int) = ((a ||| b : Nat) : Int) := (bits_nat .i64 63 (by decide) wraps_i64 a b ha hb).2
theorem diff_le (a b : Nat) : diff a b ≤ a := by
  refine sub_le (sub_iff.2 fun i hi => ?_)
  rw [testBit_diff] at hi
  exact (Bool.and_eq_true_iff.1 hi).1
theorem bits_andNot_nat (k : IntKind) (j : Nat) (hj : j ≤ k.bits) (hk : ∀ n : Int, 0 ≤ n → n < 2 ^ j → k.wrap n = n) (a b : Nat) (ha : a < 2 ^ j) (hb : b < 2 ^ j) : bits .andNot k a b = ((diff a b : Nat) : Int) := by
  have hp : 2 ^ j ≤ 2 ^ k.bits := Nat.pow_le_pow_right (by decide) hj
  have ha' : a % 2 ^ k.bits = a := Nat.mod_eq_of_lt (Nat.lt_of_lt_of_le ha hp)
  have hb' : b % 2 ^ k.bits = b := Nat.mod_eq_of_lt (Nat.lt_of_lt_of_le hb hp)
  have cast : ∀ n : Nat, n < 2 ^ j → ((n : Nat) : Int) < 2 ^ j := fun n h => by exact_mod_cast h
  have e : (BitVec.ofNat k.bits a &&& ~~~(BitVec.ofNat k.bits b)).toNat = diff a b := by
    apply Nat.eq_of_testBit_eq
    intro i
    rw [testBit_diff, BitVec.toNat_and, Nat.testBit_and, BitVec.toNat_ofNat, ha']
    by_cases hi : i < k.bits
    · rw [show ((~~~(BitVec.ofNat k.bits b)).toNat).testBit i = (~~~(BitVec.ofNat k.bits b)).getLsbD i from rfl, BitVec.getLsbD_not]
      simp [hi, BitVec.getLsbD, hb']
    · rw [Nat.testBit_lt_two_pow (x := a) (i := i) (Nat.lt_of_lt_of_le ha (Nat.pow_le_pow_right (by decide) (by omega)))]
      simp
  simp only [bits, BitVec.ofInt_natCast, e]
  exact hk _ (Int.natCast_nonneg _) (cast _ (Nat.lt_of_le_of_lt (diff_le a b) ha))
theorem andNot_nat {a b : Nat} (ha : a < 2 ^ 63) (hb : b < 2 ^ 63) : Go.bits .andNot .i64 (a : Int) (b : Int) = ((diff a b : Nat) : Int) := bits_andNot_nat .i64 63 (by decide) wraps_i64 a b ha hb
/-- a set: a number from 0 to 2^n - 1, n from 0 to 8 -/
def isSetB (n s : Int) : Bool := decide (0 ≤ n ∧ n ≤ 8 ∧ 0 ≤ s ∧ s < 2 ^ n.toNat)
def isAny (s : Int) : Bool := decide (0 ≤ s ∧ s < 256)
theorem isSetB_8 (s : Int) : isSetB 8 s = isAny s := by
  unfold isSetB isAny
  rw [show (8 : Int).toNat = 8 from rfl]
  have : (2 : Int) ^ 8 = 256 := by decide
  rw [this]
  simp
theorem isAny_nat {s : Int} (h : isAny s = true) : ∃ a : Nat, a < 256 ∧ s = (a : Int) := by
  unfold isAny at h
  have := of_decide_eq_true h
  exact ⟨s.toNat, by omega, by omega⟩
theorem upper_val (n : Int) (h0 : 0 ≤ n) (h1 : n ≤ 8) : wrap64 ((shl .i64 1 n) - 1) = 2 ^ n.toNat - 1 := by
  have h : n = 0 ∨ n = 1 ∨ n = 2 ∨ n = 3 ∨ n = 4 ∨ n = 5 ∨ n = 6 ∨ n = 7 ∨ n = 8 := by omega
  rcases h with rfl | rfl | rfl | rfl | rfl | rfl | rfl | rfl | rfl <;> decide +kernel
theorem wrapU_val (n : Int) (h0 : 0 ≤ n) (h1 : n ≤ 8) : IntKind.u64.wrap n = n := by
  have h : n = 0 ∨ n = 1 ∨ n = 2 ∨ n = 3 ∨ n = 4 ∨ n = 5 ∨ n = 6 ∨ n = 7 ∨ n = 8 := by omega
  rcases h with rfl | rfl | rfl | rfl | rfl | rfl | rfl | rfl | rfl <;> decide +kernel
end Go.Proofs.Ytamjnninbdnjhaa.Pu
namespace Go.Proofs.Ytamjnninbdnjhaa.Pu
open Go.RowKit Go.Proofs.YtamjnninbdnjhaaW.PrintWords Go.Proofs.YtamjnninbdnjhaaW.PrintLast Go.Proofs.YtamjnninbdnjhaaW.PrintMore Go.Proofs.Ytamjnninbdnjhaa.Pr
theorem wrap_succ {i n : Nat} (h : i < n) (hn : n ≤ 9223372036854775807) : wrap64 ((i : Int) + 1) = ((i + 1 : Nat) : Int) := by unfold wrap64; omega
theorem drop_nil {α : Type} {l : List α} {i : Nat} (h : l.drop i = []) : l.length ≤ i := by
  have := congrArg List.length h
  simp at this; omega
theorem drop_cons {α : Type} {l rest : List α} {i : Nat} {x d : α} (h : l.drop i = x :: rest) : i < l.length ∧ l.getD i d = x ∧ l.drop (i + 1) = rest := by
  have hi : i < l.length := by
    rcases Nat.lt_or_ge i l.length with h' | h'
    · exact h'
    · rw [List.drop_of_length_le h'] at h; cases h
  rw [List.drop_eq_getElem_cons hi] at h
  injection h with h1 h2
  exact ⟨hi, by rw [List.getD_eq_getElem?_getD, List.getElem?_eq_getElem hi]; exact h1, h2⟩
end Go.Proofs.Ytamjnninbdnjhaa.Pu
namespace Go.Proofs.Ytamjnninbdnjhaa.Pu
open Go.RowKit Go.Proofs.YtamjnninbdnjhaaW.PrintWords Go.Proofs.YtamjnninbdnjhaaW.PrintLast Go.Proofs.YtamjnninbdnjhaaW.PrintMore Go.Proofs.Ytamjnninbdnjhaa.Pr
theorem l1In_val (a b c : Int) : spec_l1In.f a b c = some (decide (b ≤ a ∧ a ≤ c)) := by
  unfold spec_l1In.f
  by_cases h : b ≤ a
  · rw [if_pos h]; simp [h]
  · rw [if_neg h]; simp [h]
theorem within_val (a b c : Int) : impl_within.f a b c = some (decide (b ≤ a ∧ a ≤ c)) := by
  unfold impl_within.f
  by_cases h : b ≤ a
  · rw [if_pos h]; simp [h]
  · rw [if_neg h]; simp [h]
theorem setB_of {n s : Int} (h : 0 ≤ n ∧ n ≤ 8) : decide (0 ≤ s ∧ s ≤ 2 ^ n.toNat - 1) = isSetB n s := by
  unfold isSetB
  generalize (2 : Int) ^ n.toNat = q
  rw [decide_eq_decide]
  omega
theorem setB_not {n s : Int} (h : ¬ (0 ≤ n ∧ n ≤ 8)) : isSetB n s = false := by
  unfold isSetB
  rw [decide_eq_false_iff_not]
  omega
theorem specSet_val (n s : Int) : spec_IsSet.f n s = some (isSetB n s) := by
  unfold spec_IsSet.f
  rw [l1In_val, Option.bind_some]
  by_cases h : 0 ≤ n ∧ n ≤ 8
  · rw [if_pos (decide_eq_true h), wrapU_val n h.1 h.2, if_pos h.1, upper_val n h.1 h.2, l1In_val, Option.bind_some, setB_of h]
  · rw [if_neg (by simpa using h), setB_not h]
theorem set_val (n s : Int) : impl_IsSet.f n s = some (isSetB n s) := by
  unfold impl_IsSet.f
  rw [within_val, Option.bind_some]
  by_cases h : 0 ≤ n ∧ n ≤ 8
  · rw [if_pos (decide_eq_true h), if_pos h.1, upper_val n h.1 h.2, within_val, Option.bind_some, setB_of h]
  · rw [if_neg (by simpa using h), setB_not h]
theorem any_val (s : Int) : impl_isAnySet.f s = some (isAny s) := by
  unfold impl_isAnySet.f
  rw [set_val, Option.bind_some, isSetB_8]
theorem rule_val (n a b : Int) : spec_l9Rule.f n a b = some (isSetB n a && isSetB n b) := by
  unfold spec_l9Rule.f
  rw [specSet_val, Option.bind_some]
  cases isSetB n a with
  | false => rfl
  | true => rw [if_pos rfl, specSet_val, Option.bind_some]; rfl
end Go.Proofs.Ytamjnninbdnjhaa.Pu
namespace Go.Proofs.Ytamjnninbdnjhaa.Pu
open Go.RowKit Go.Proofs.YtamjnninbdnjhaaW.PrintWords Go.Proofs.YtamjnninbdnjhaaW.PrintLast Go.Proofs.YtamjnninbdnjhaaW.PrintMore Go.Proofs.Ytamjnninbdnjhaa.Pr
abbrev IR := S46
theorem rdR (l : List IR) (i : Nat) : rd_T46 l (i : Int) = l.getD i z46 := by unfold rd_T46; rw [Int.toNat_natCast]
def anyR (r : IR) : Bool := isAny r.f0 && isAny r.f1
/-- a rule as two sets -/
def toP (r : IR) : Nat × Nat := (r.f0.toNat, r.f1.toNat)
def toR (l : List IR) : Rules := l.map toP
end Go.Proofs.Ytamjnninbdnjhaa.Pu
namespace Go.Proofs.Ytamjnninbdnjhaa.Pu
open Go.RowKit Go.Proofs.YtamjnninbdnjhaaW.PrintWords Go.Proofs.YtamjnninbdnjhaaW.PrintLast Go.Proofs.YtamjnninbdnjhaaW.PrintMore Go.Proofs.Ytamjnninbdnjhaa.Pr
theorem anyR_nat {r : IR} (h : anyR r = true) : r.f0 = ((toP r).1 : Int) ∧ r.f1 = ((toP r).2 : Int) ∧ (toP r).1 < 256 ∧ (toP r).2 < 256 := by
  unfold anyR at h
  rw [Bool.and_eq_true] at h
  obtain ⟨a, ha, e⟩ := isAny_nat h.1
  obtain ⟨b, hb, e'⟩ := isAny_nat h.2
  unfold toP
  simp only [e, e', Int.toNat_natCast]
  exact ⟨trivial, trivial, ha, hb⟩
theorem toR_small {l : List IR} (h : l.all anyR = true) : small (toR l) := by
  intro r hr
  obtain ⟨x, hx, rfl⟩ := List.mem_map.1 hr
  have := anyR_nat (List.all_eq_true.1 h x hx)
  exact this.2.2
theorem inSet_val {a b : Nat} (ha : a < 256) (hb : b < 256) : impl_inSet.f (a : Int) (b : Int) = some (sub a b) := by
  unfold impl_inSet.f
  rw [andNot_nat (by omega) (by omega)]
  congr 1
  rw [Bool.eq_iff_iff, beq_iff_eq]
  rw [← diff_eq_zero]
  exact_mod_cast Iff.rfl
theorem and_eq_sub {a b : Nat} (ha : a < 256) (hb : b < 256) : (Go.bits .and .i64 (a : Int) (b : Int) = (a : Int)) ↔ sub a b = true := by
  rw [and_nat (by omega) (by omega)]
  unfold sub
  rw [beq_iff_eq]
  exact_mod_cast Iff.rfl
theorem or256 {a b : Nat} (ha : a < 256) (hb : b < 256) : a ||| b < 256 := Nat.or_lt_two_pow (n := 8) ha hb
end Go.Proofs.Ytamjnninbdnjhaa.Pu
namespace Go.Proofs.Ytamjnninbdnjhaa.Pu
open Go.RowKit Go.Proofs.YtamjnninbdnjhaaW.PrintWords Go.Proofs.YtamjnninbdnjhaaW.PrintLast Go.Proofs.YtamjnninbdnjhaaW.PrintMore Go.Proofs.Ytamjnninbdnjhaa.Pr
abbrev LR := S40
def conv (x : LR) : IR := ⟨x.f0, x.f1⟩
theorem rdL (l : List LR) (i : Nat) : rd_T40 l (i : Int) = l.getD i z40 := by unfold rd_T40; rw [Int.toNat_natCast]
theorem set_mid {α : Type} (a b : List α) (x y : α) (n : Nat) (h : a.length = n) : (a ++ x :: b).set n y = a ++ y :: b := by
  subst h
  rw [List.set_append]
  simp
theorem sz_more (l : List LR) (hl : l.length ≤ 9223372036854775807) (a : Int) (h0 : 0 ≤ a) (ha : a ≤ 1048576) : ∃ m : Int, laws_szRuleS.f l a = some m ∧ (0 ≤ m → l.length ≤ 1048576) := by
  unfold laws_szRuleS.f
  have hw : wrap64 (a - (l.length : Int)) = a - (l.length : Int) := by unfold wrap64; omega
  rw [hw]
  by_cases h : (a - (l.length : Int)) < 0
  · exact ⟨-1, by rw [if_pos h], fun h => absurd h (by decide)⟩
  · exact ⟨_, by rw [if_neg h], fun _ => by omega⟩
theorem sz_val (l : List LR) (hl : l.length ≤ 9223372036854775807) : ∃ m : Int, laws_szRuleS.f l 1048576 = some m ∧ (0 ≤ m → l.length ≤ 1048576) := sz_more l hl 1048576 (by decide) (by decide)
theorem toRule_loop (l : List LR) (hl : l.length ≤ 1048576) : ∀ (rest : List LR) (i : Nat), l.drop i = rest →
    Ev (fun k => laws_toRuleS.l0 k l (((l.take i).map conv) ++ List.replicate rest.length z46) (i : Int)) (l.map conv) := by
  intro rest
  induction rest with
  | nil =>
    intro i h
    have := drop_nil h
    refine Ev.step (f := fun _ => some (l.map conv)) (fun k => ?_) (Ev.now _)
    simp only [laws_toRuleS.l0]
    rw [if_neg (by omega), List.take_of_length_le this]
    simp
  | cons x rest ih =>
    intro i h
    obtain ⟨hi, hx, hr⟩ := drop_cons (d := z40) h
    have hlen : l.length = i + (rest.length + 1) := by
      have := congrArg List.length h
      simp at this; omega
    have hti : ((l.take i).map conv).length = i := by simp; omega
    refine Ev.step (f := fun k => laws_toRuleS.l0 k l (((l.take (i + 1)).map conv) ++ List.replicate rest.length z46) ((i + 1 : Nat) : Int)) (fun k => ?_) (ih (i + 1) hr)
    simp only [laws_toRuleS.l0, laws_toRule.f, Option.bind_some]
    rw [if_pos (by omega), if_pos (by omega), if_pos (by rw [List.length_append, hti, List.length_replicate, List.length_cons]; omega), rdL, hx, wrap_succ hi (by omega), Int.toNat_natCast]
    congr 1
    rw [List.length_cons, List.replicate_succ, set_mid _ _ _ _ i hti]
    have ht : l.take (i + 1) = l.take i ++ [x] := by
      rw [List.take_succ_eq_append_getElem hi]
      congr 2
      rw [List.getD_eq_getElem?_getD, List.getElem?_eq_getElem hi] at hx
      exact hx
    rw [ht, List.map_append, List.append_assoc]
    rfl
theorem toRule_val (l : List LR) (hl : l.length ≤ 1048576) : Ev (fun k => laws_toRuleS.f k l) (l.map conv) := by
  unfold laws_toRuleS.f
  refine Ev.congr (fun k => ?_) (toRule_loop l hl l 0 rfl)
  rw [if_pos (by omega), if_pos (by omega)]
  simp
theorem eqRule_loop (l : List IR) (hl : l.length ≤ 9223372036854775807) : ∀ (rest : List IR) (i : Nat), l.drop i = rest → Ev (fun k => laws_eqRuleS.l0 k l l (i : Int)) true := by
  intro rest
  induction rest with
  | nil =>
    intro i h
    have := drop_nil h
    refine Ev.step (f := fun _ => some true) (fun k => ?_) (Ev.now _)
    simp only [laws_eqRuleS.l0]
    rw [if_neg (by omega)]
  | cons x rest ih =>
    intro i h
    obtain ⟨hi, hx, hr⟩ := drop_cons (d := z46) h
    refine Ev.step (f := fun k => laws_eqRuleS.l0 k l l ((i + 1 : Nat) : Int)) (fun k => ?_) (ih (i + 1) hr)
    simp only [laws_eqRuleS.l0, laws_eqRule.f]
    rw [if_pos (by omega), if_pos (by omega), if_pos (by omega), wrap_succ hi hl]
    simp
theorem eqRule_self (l : List IR) (hl : l.length ≤ 9223372036854775807) : Ev (fun k => laws_eqRuleS.f k l l) true := by
  unfold laws_eqRuleS.f
  refine Ev.congr (fun k => ?_) (eqRule_loop l hl l 0 rfl)
  rw [if_pos rfl]
  rfl
/-- rules marked with the numbers from m on -/
def marked : List IR → Int → List IR
  | [], _ => []
  | _ :: l, m => ⟨m, m + 1⟩ :: marked l (m + 2)
theorem mark_loop (n : Nat) (hn : n ≤ 1048576) : ∀ (rest done : List IR) (i : Nat) (m : Int), done.length = i → i + rest.length = n → 0 ≤ m → m ≤ 1 + 2 * i →
    Ev (fun k => laws_markRuleS.l0 k (done ++ rest) m (i : Int)) (m + 2 * rest.length, done ++ marked rest m) := by
  intro rest
  induction rest with
  | nil =>
    intro done i m hd hi h0 h1
    refine Ev.step (f := fun _ => some (m, done)) (fun k => ?_) ?_
    · simp only [laws_markRuleS.l0, List.append_nil]
      rw [if_neg (by omega)]
    · simp only [marked, List.append_nil, List.length_nil]
      rw [show m + 2 * ((0 : Nat) : Int) = m from by omega]
      exact Ev.now _
  | cons x rest ih =>
    intro done i m hd hi h0 h1
    rw [List.length_cons] at hi
    have w1 : wrap64 (m + 1) = m + 1 := by unfold wrap64; omega
    have w2 : wrap64 (m + 1 + 1) = m + 2 := by unfold wrap64; omega
    have w3 : wrap64 ((i : Int) + 1) = ((i + 1 : Nat) : Int) := by unfold wrap64; omega
    refine Ev.step (f := fun k => laws_markRuleS.l0 k ((done ++ [⟨m, m + 1⟩]) ++ rest) (m + 2) ((i + 1 : Nat) : Int)) (fun k => ?_) ?_
    · simp only [laws_markRuleS.l0, Option.bind_some]
      rw [if_pos (by rw [List.length_append, List.length_cons]; omega), if_pos (by omega), w1, w2, w3, Int.toNat_natCast, set_mid _ _ _ _ i hd]
      have hrd : ∀ y : IR, rd_T46 (done ++ y :: rest) (i : Int) = y := by
        intro y
        rw [rdR, List.getD_eq_getElem?_getD, List.getElem?_append_right (by omega), hd]
        simp
      simp only [hrd]
      rw [set_mid _ _ _ _ i hd]
      simp
    · have := ih (done ++ [⟨m, m + 1⟩]) (i + 1) (m + 2) (by simp [hd]) (by omega) (by omega) (by omega)
      rw [marked, List.length_cons]
      rw [show m + 2 * ((rest.length + 1 : Nat) : Int) = m + 2 + 2 * (rest.length : Int) from by omega]
      simpa using this
theorem mark_val (l : List IR) (hl : l.length ≤ 1048576) : Ev (fun k => laws_markRuleS.f k l 1) (1 + 2 * (l.length : Int), marked l 1) := by
  unfold laws_markRuleS.f
  exact mark_loop l.length hl l [] 0 1 rfl (by omega) (by decide) (by omega)
theorem mark_pos (l : List IR) : ¬ (1 + 2 * (l.length : Int) < 0) := by omega
end Go.Proofs.Ytamjnninbdnjhaa.Pu
namespace Go.Proofs.Ytamjnninbdnjhaa.Pu
open Go.RowKit Go.Proofs.YtamjnninbdnjhaaW.PrintWords Go.Proofs.YtamjnninbdnjhaaW.PrintLast Go.Proofs.YtamjnninbdnjhaaW.PrintMore Go.Proofs.Ytamjnninbdnjhaa.Pr
abbrev IS := S77
theorem rdIS (l : List IS) (i : Nat) : rd_T77 l (i : Int) = l.getD i z77 := by unfold rd_T77; rw [Int.toNat_natCast]
theorem set_midS {α : Type} (a b : List α) (x y : α) (n : Nat) (h : a.length = n) : (a ++ x :: b).set n y = a ++ y :: b := by
  subst h
  rw [List.set_append]
  simp
theorem eqStep_loop (l : List IS) (hl : l.length ≤ 9223372036854775807) : ∀ (rest : List IS) (i : Nat), l.drop i = rest → Ev (fun k => laws_eqStepS.l0 k l l (i : Int)) true := by
  intro rest
  induction rest with
  | nil =>
    intro i h
    have := drop_nil h
    refine Ev.step (f := fun _ => some true) (fun k => ?_) (Ev.now _)
    simp only [laws_eqStepS.l0]
    rw [if_neg (by omega)]
  | cons x rest ih =>
    intro i h
    obtain ⟨hi, hx, hr⟩ := drop_cons (d := z77) h
    refine Ev.step (f := fun k => laws_eqStepS.l0 k l l ((i + 1 : Nat) : Int)) (fun k => ?_) (ih (i + 1) hr)
    simp only [laws_eqStepS.l0, laws_eqStep.f]
    rw [if_pos (by omega), if_pos (by omega), if_pos (by omega), wrap_succ hi hl]
    simp
theorem eqStep_self (l : List IS) (hl : l.length ≤ 9223372036854775807) : Ev (fun k => laws_eqStepS.f k l l) true := by
  unfold laws_eqStepS.f
  refine Ev.congr (fun k => ?_) (eqStep_loop l hl l 0 rfl)
  rw [if_pos rfl]
  rfl
/-- steps markedS with the numbers from m on -/
def markedS : List IS → Int → List IS
  | [], _ => []
  | _ :: l, m => ⟨m, m + 1⟩ :: markedS l (m + 2)
theorem markS_loop (n : Nat) (hn : n ≤ 1048576) : ∀ (rest done : List IS) (i : Nat) (m : Int), done.length = i → i + rest.length = n → 0 ≤ m → m ≤ 1 + 2 * i →
    Ev (fun k => laws_markStepS.l0 k (done ++ rest) m (i : Int)) (m + 2 * rest.length, done ++ markedS rest m) := by
  intro rest
  induction rest with
  | nil =>
    intro done i m hd hi h0 h1
    refine Ev.step (f := fun _ => some (m, done)) (fun k => ?_) ?_
    · simp only [laws_markStepS.l0, List.append_nil]
      rw [if_neg (by omega)]
    · simp only [markedS, List.append_nil, List.length_nil]
      rw [show m + 2 * ((0 : Nat) : Int) = m from by omega]
      exact Ev.now _
  | cons x rest ih =>
    intro done i m hd hi h0 h1
    rw [List.length_cons] at hi
    have w1 : wrap64 (m + 1) = m + 1 := by unfold wrap64; omega
    have w2 : wrap64 (m + 1 + 1) = m + 2 := by unfold wrap64; omega
    have w3 : wrap64 ((i : Int) + 1) = ((i + 1 : Nat) : Int) := by unfold wrap64; omega
    refine Ev.step (f := fun k => laws_markStepS.l0 k ((done ++ [⟨m, m + 1⟩]) ++ rest) (m + 2) ((i + 1 : Nat) : Int)) (fun k => ?_) ?_
    · simp only [laws_markStepS.l0, Option.bind_some]
      rw [if_pos (by rw [List.length_append, List.length_cons]; omega), if_pos (by omega), w1, w2, w3, Int.toNat_natCast, set_midS _ _ _ _ i hd]
      have hrd : ∀ y : IS, rd_T77 (done ++ y :: rest) (i : Int) = y := by
        intro y
        rw [rdIS, List.getD_eq_getElem?_getD, List.getElem?_append_right (by omega), hd]
        simp
      simp only [hrd]
      rw [set_midS _ _ _ _ i hd]
      simp
    · have := ih (done ++ [⟨m, m + 1⟩]) (i + 1) (m + 2) (by simp [hd]) (by omega) (by omega) (by omega)
      rw [markedS, List.length_cons]
      rw [show m + 2 * ((rest.length + 1 : Nat) : Int) = m + 2 + 2 * (rest.length : Int) from by omega]
      simpa using this
theorem markS_val (l : List IS) (hl : l.length ≤ 1048576) : Ev (fun k => laws_markStepS.f k l 1) (1 + 2 * (l.length : Int), markedS l 1) := by
  unfold laws_markStepS.f
  exact markS_loop l.length hl l [] 0 1 rfl (by omega) (by decide) (by omega)
theorem heldS_loop (n : Nat) (hn : n ≤ 1048576) : ∀ (rest done : List IS) (i : Nat) (m : Int), done.length = i → i + rest.length = n → 0 ≤ m → m ≤ 1 + 2 * i →
    Ev (fun k => laws_heldStepS.l0 k (done ++ markedS rest m) m (i : Int)) (m + 2 * rest.length) := by
  intro rest
  induction rest with
  | nil =>
    intro done i m hd hi h0 h1
    refine Ev.step (f := fun _ => some m) (fun k => ?_) ?_
    · simp only [laws_heldStepS.l0, markedS, List.append_nil]
      rw [if_neg (by omega)]
    · rw [List.length_nil, show m + 2 * ((0 : Nat) : Int) = m from by omega]
      exact Ev.now _
  | cons x rest ih =>
    intro done i m hd hi h0 h1
    rw [List.length_cons] at hi
    have w1 : wrap64 (m + 1) = m + 1 := by unfold wrap64; omega
    have w2 : wrap64 (m + 1 + 1) = m + 2 := by unfold wrap64; omega
    have w3 : wrap64 ((i : Int) + 1) = ((i + 1 : Nat) : Int) := by unfold wrap64; omega
    rw [markedS]
    refine Ev.step (f := fun k => laws_heldStepS.l0 k ((done ++ [⟨m, m + 1⟩]) ++ markedS rest (m + 2)) (m + 2) ((i + 1 : Nat) : Int)) (fun k => ?_) ?_
    · simp only [laws_heldStepS.l0]
      have hrd : rd_T77 (done ++ ⟨m, m + 1⟩ :: markedS rest (m + 2)) (i : Int) = ⟨m, m + 1⟩ := by
        rw [rdIS, List.getD_eq_getElem?_getD, List.getElem?_append_right (by omega), hd]
        simp
      rw [if_pos (by rw [List.length_append, List.length_cons]; omega), if_pos (by omega), hrd, if_pos rfl, w1, if_pos rfl, w2, w3]
      simp
    · have := ih (done ++ [⟨m, m + 1⟩]) (i + 1) (m + 2) (by simp [hd]) (by omega) (by omega) (by omega)
      rw [List.length_cons, show m + 2 * ((rest.length + 1 : Nat) : Int) = m + 2 + 2 * (rest.length : Int) from by omega]
      exact this
theorem heldS_val (l : List IS) (hl : l.length ≤ 1048576) : Ev (fun k => laws_heldStepS.f k (markedS l 1) 1) (1 + 2 * (l.length : Int)) := by
  unfold laws_heldStepS.f
  exact heldS_loop l.length hl l [] 0 1 rfl (by omega) (by decide) (by omega)
theorem markS_pos (l : List IS) : ¬ (1 + 2 * (l.length : Int) < 0) := by omega
end Go.Proofs.Ytamjnninbdnjhaa.Pu
namespace Go.Proofs.Ytamjnninbdnjhaa.Pu
open Go.RowKit Go.Proofs.YtamjnninbdnjhaaW.PrintWords Go.Proofs.YtamjnninbdnjhaaW.PrintLast Go.Proofs.YtamjnninbdnjhaaW.PrintMore Go.Proofs.Ytamjnninbdnjhaa.Pr
theorem sets_loop (l : List IR) (hl : l.length ≤ 9223372036854775807) : ∀ (rest : List IR) (i : Nat), l.drop i = rest → Ev (fun k => spec_l9Sets.l0 k l (i : Int)) (rest.all anyR) := by
  intro rest
  induction rest with
  | nil =>
    intro i h
    have := drop_nil h
    refine Ev.step (f := fun _ => some true) (fun k => ?_) (Ev.now _)
    simp only [spec_l9Sets.l0]
    rw [if_neg (by omega)]
  | cons x rest ih =>
    intro i h
    obtain ⟨hi, hx, hr⟩ := drop_cons (d := z46) h
    rw [List.all_cons]
    cases e : anyR x with
    | true =>
      refine Ev.step (f := fun k => spec_l9Sets.l0 k l ((i + 1 : Nat) : Int)) (fun k => ?_) (ih (i + 1) hr)
      simp only [spec_l9Sets.l0]
      rw [if_pos (by omega), if_pos (by omega), rdR, hx, rule_val, Option.bind_some, isSetB_8, isSetB_8, show (isAny x.f0 && isAny x.f1) = true from e, if_pos rfl, wrap_succ hi hl]
    | false =>
      refine Ev.step (f := fun _ => some false) (fun k => ?_) (Ev.now false)
      simp only [spec_l9Sets.l0]
      rw [if_pos (by omega), if_pos (by omega), rdR, hx, rule_val, Option.bind_some, isSetB_8, isSetB_8, show (isAny x.f0 && isAny x.f1) = false from e, if_neg (by decide)]
theorem sets_val (l : List IR) (hl : l.length ≤ 9223372036854775807) : Ev (fun k => spec_l9Sets.f k l) (l.all anyR) := sets_loop l hl l 0 rfl
end Go.Proofs.Ytamjnninbdnjhaa.Pu
namespace Go.Proofs.Ytamjnninbdnjhaa.Op
open Go.RowKit Go.Proofs.YtamjnninbdnjhaaW.PrintWords
open Go.Deep
def Opens {α : Type} (P : Program) (t : TypeId) (d : Kd α) (wf : α → Prop) : Prop :=
  ∀ {H : Type} {enc : TypeId × Value → H} {w : World} {base : Nat} {spare : Nat → Bool} {held : Bool} {fuel : Nat} {cs : List Value} {x : DataW H × List MemPlace},
    DataW.trod enc P w base spare held fuel t cs = some x → ∃ v : α, d.K w v cs ∧ wf v
theorem Opens.int {P : Program} {t : TypeId} {k : IntKind} (ht : P.underlying t = some (.int k)) : Opens P t (Kd.int k) (fun n => (Lit.int k n).wf = true) := by
  intro H enc w base spare held fuel cs x h
  obtain ⟨n, rfl, _, hw⟩ := DataW.trod_int ht h
  exact ⟨n, rfl, hw⟩
theorem Opens.iso {α β : Type} {P : Program} {t : TypeId} {d : Kd α} {wf : α → Prop} (h : Opens P t d wf) (f : β → α) (g : α → β) (hfg : ∀ a, f (g a) = a) : Opens P t (Kd.iso d f) (fun b => wf (f b)) := by
  intro H enc w base spare held fuel cs x ht
  obtain ⟨v, hK, hw⟩ := h ht
  refine ⟨g v, ?_, ?_⟩
  · show d.K w (f (g v)) cs
    rw [hfg]; exact hK
  · show wf (f (g v))
    rw [hfg]; exact hw
theorem Opens.struct2 {α β : Type} {P : Program} {t : TypeId} {f0 f1 : Field} {d0 : Kd α} {d1 : Kd β} {w0 : α → Prop} {w1 : β → Prop} (ht : P.underlying t = some (.struct #[f0, f1]))
    (o0 : f0.offset = 0) (c0 : P.cellsOf f0.type = d0.sz) (o1 : f1.offset = d0.sz) (c1 : P.cellsOf f1.type = d1.sz) (ct : P.cellsOf t = d0.sz + d1.sz)
    (h0 : Opens P f0.type d0 w0) (h1 : Opens P f1.type d1 w1) : Opens P t (Kd.pair d0 d1) (fun x => w0 x.1 ∧ w1 x.2) := by
  intro H enc w base spare held fuel cs x h
  obtain ⟨xs, n, _, _, hl, hn, hf⟩ := DataW.trod_struct ht h
  have hn2 : xs.length = 2 := hn
  have a0 := hf 0 f0 rfl
  have a1 := hf 1 f1 rfl
  rw [List.getElem?_eq_getElem (by omega)] at a0 a1
  obtain ⟨v0, k0, q0⟩ := h0 a0
  obtain ⟨v1, k1, q1⟩ := h1 a1
  refine ⟨(v0, v1), ⟨_, _, ?_, k0, k1⟩, q0, q1⟩
  rw [o0, c0, o1, c1, List.drop_zero]
  rw [ct] at hl
  have e : (cs.drop d0.sz).take d1.sz = cs.drop d0.sz := List.take_of_length_le (by rw [List.length_drop]; omega)
  rw [e, List.take_append_drop]
theorem Opens.slice {α : Type} [Inhabited α] {P : Program} {t e : TypeId} {d : Kd α} {wf : α → Prop} (ht : P.underlying t = some (.slice e)) (hc : P.cellsOf e = d.sz) (h : Opens P e d wf) : Opens P t (Kd.slice e d) (fun xs => ∀ x ∈ xs, wf x) := by
  intro H enc w base spare held fuel cs x hx
  rcases open_slice ht hx with ⟨rfl, _⟩ | ⟨a, len, cap, m, n, D, Pl, rfl, hb, hl, hm, hmm, rfl, hel⟩
  · exact ⟨[], ⟨none, 0, rfl, Nat.le_refl _, Kd.C_nil d w⟩, by simp⟩
  · have hlm : len ≤ m := by rw [hmm]; split <;> omega
    obtain ⟨f, hf⟩ := choose_lt (α := α) (n := len) (p := fun i v => ∃ cs', w.cells? base (a.add (i * P.cellsOf e)) (P.cellsOf e) = some cs' ∧ d.K w v cs' ∧ wf v) (fun i hi => by
      obtain ⟨cs', h1, h2⟩ := hel i (by omega)
      obtain ⟨v, hk, hw⟩ := h h2
      exact ⟨v, cs', h1, hk, hw⟩)
    refine ⟨(List.range len).map f, ⟨some a, cap, by simp, by simpa using hl, by simp, by simp only [maxLen] at hm; simp; omega, fun _ => ⟨a, rfl, fun j p hj => ?_⟩⟩, ?_⟩
    · have hjl : j < len := by
        have := (List.getElem?_eq_some_iff.1 hj).1
        simpa using this
      have hp : p = f j := by simpa [hjl] using hj.symm
      subst hp
      obtain ⟨cs', h1, hk, _⟩ := hf j hjl
      obtain ⟨_, hlen, hcell⟩ := World.cells?_some h1
      refine ⟨cs', by rw [hlen, hc], hk, fun i u hu => ?_⟩
      have hi : i < cs'.length := (List.getElem?_eq_some_iff.1 hu).1
      have h2 := hcell i (by omega)
      rw [Go.Deep.add_add] at h2
      rw [← hc, h2, hu]
    · intro y hy
      obtain ⟨j, hj, rfl⟩ := List.mem_map.1 hy
      obtain ⟨_, _, _, hw⟩ := hf j (List.mem_range.1 hj)
      exact hw
end Go.Proofs.Ytamjnninbdnjhaa.Op
