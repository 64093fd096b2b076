/- What the law needs of the program's functions as plain functions, of the proofs that their calls answer so, and of plain laws: gathered by a program of this place (pack.py) out of its printed texts. No condition beyond what each statement says. -/
import Derived.Test.YtbflblmkdnhboaaGreatDoorZXIsBase1
import Derived.Laws.BitsLemmas
import Derived.RowKit
import Derived.Test.YtbflblmkdnhboaaGreatDoorZXIsBase2
import Derived.Test.YtbflblmkdnhboaaGreatDoorZXIsBase3
import Derived.Test.YtbflblmkdnhboaaGreatDoorZXIsBase7
import Derived.Test.YtbflblmkdnhboaaGreatDoorZXIsBase8
import Derived.Test.YtbflblmkdnhboaaGreatDoorZXIsBase9
import Derived.Test.YtbflblmkdnhboaaGreatDoorZXIsBase4
namespace Go.Proofs.YtbflblmkdnhboaaGreatDoor.Pu
/-- all elements of a are in b -/
def sub (a b : Nat) : Bool := a &&& b == a
theorem sub_iff {a b : Nat} : sub a b = true ↔ ∀ i, a.testBit i = true → b.testBit i = true := by
  unfold sub
  rw [beq_iff_eq]
  constructor
  · intro h i hi
    rw [← h, Nat.testBit_and] at hi
    exact (Bool.and_eq_true_iff.1 hi).2
  · intro h
    apply Nat.eq_of_testBit_eq
    intro i
    rw [Nat.testBit_and]
    cases ha : a.testBit i with
    | false => rfl
    | true => rw [h i ha]; rfl
theorem sub_refl (a : Nat) : sub a a = true := by simp [sub]
theorem sub_trans {a b c : Nat} (h : sub a b = true) (k : sub b c = true) : sub a c = true :=
  sub_iff.2 fun i hi => sub_iff.1 k i (sub_iff.1 h i hi)
theorem sub_antisymm {a b : Nat} (h : sub a b = true) (k : sub b a = true) : a = b := by
  apply Nat.eq_of_testBit_eq
  intro i
  rw [Bool.eq_iff_iff]
  exact ⟨sub_iff.1 h i, sub_iff.1 k i⟩
theorem sub_or_left (a b : Nat) : sub a (a ||| b) = true := sub_iff.2 fun i hi => by rw [Nat.testBit_or, hi]; rfl
theorem sub_or_right (a b : Nat) : sub b (a ||| b) = true := sub_iff.2 fun i hi => by rw [Nat.testBit_or, hi]; simp
theorem or_sub {a b c : Nat} (h : sub a c = true) (k : sub b c = true) : sub (a ||| b) c = true := sub_iff.2 fun i hi => by
  rw [Nat.testBit_or, Bool.or_eq_true] at hi
  rcases hi with hi | hi
  · exact sub_iff.1 h i hi
  · exact sub_iff.1 k i hi
theorem sub_le {a b : Nat} (h : sub a b = true) : a ≤ b := by
  have : a &&& b = a := by simpa [sub] using h
  rw [← this]; exact Nat.and_le_right
/-- the elements of a that are not in b -/
def diff (a b : Nat) : Nat := a ^^^ (a &&& b)
theorem testBit_diff (a b i : Nat) : (diff a b).testBit i = (a.testBit i && !b.testBit i) := by
  unfold diff
  rw [Nat.testBit_xor, Nat.testBit_and]
  cases a.testBit i <;> cases b.testBit i <;> rfl
theorem diff_eq_zero {a b : Nat} : diff a b = 0 ↔ sub a b = true := by
  constructor
  · intro h
    refine sub_iff.2 fun i hi => ?_
    have := testBit_diff a b i
    rw [h, hi] at this
    simpa using this
  · intro h
    apply Nat.eq_of_testBit_eq
    intro i
    rw [testBit_diff, Nat.zero_testBit]
    cases ha : a.testBit i with
    | false => rfl
    | true => rw [sub_iff.1 h i ha]; rfl
abbrev Rules := List (Nat × Nat)
/-- one step: the set with the conclusions of all rules whose premises it has -/
def step (R : Rules) (s : Nat) : Nat := R.foldl (fun o r => if sub r.1 s then o ||| r.2 else o) s
def resp (R : Rules) (s : Nat) : Prop := ∀ r ∈ R, sub r.1 s = true → sub r.2 s = true
theorem fold_spec (R : Rules) (s : Nat) : ∀ o, sub o (R.foldl (fun o r => if sub r.1 s then o ||| r.2 else o) o) = true ∧
    (∀ r ∈ R, sub r.1 s = true → sub r.2 (R.foldl (fun o r => if sub r.1 s then o ||| r.2 else o) o) = true) ∧
    (∀ t, sub o t = true → (∀ r ∈ R, sub r.1 s = true → sub r.2 t = true) → sub (R.foldl (fun o r => if sub r.1 s then o ||| r.2 else o) o) t = true) := by
  induction R with
  | nil => intro o; exact ⟨sub_refl _, by simp, fun t h _ => h⟩
  | cons r R ih =>
    intro o
    rw [List.foldl_cons]
    obtain ⟨h1, h2, h3⟩ := ih (if sub r.1 s then o ||| r.2 else o)
    refine ⟨?_, ?_, ?_⟩
    · refine sub_trans ?_ h1
      split
      · exact sub_or_left _ _
      · exact sub_refl _
    · intro q hq hs
      rcases List.mem_cons.1 hq with rfl | hq
      · refine sub_trans ?_ h1
        rw [if_pos hs]; exact sub_or_right _ _
      · exact h2 q hq hs
    · intro t ht hr
      refine h3 t ?_ (fun q hq => hr q (List.mem_cons_of_mem _ hq))
      split
      · rename_i h; exact or_sub ht (hr r List.mem_cons_self h)
      · exact ht
theorem sub_step (R : Rules) (s : Nat) : sub s (step R s) = true := (fold_spec R s s).1
theorem step_le_of {R : Rules} {s t : Nat} (h : sub s t = true) (hr : resp R t) : sub (step R s) t = true :=
  (fold_spec R s s).2.2 t h fun r hr' hs => hr r hr' (sub_trans hs h)
theorem step_fix {R : Rules} {s : Nat} : step R s = s ↔ resp R s := by
  constructor
  · intro h r hr hs
    have := (fold_spec R s s).2.1 r hr hs
    rw [show R.foldl (fun o r => if sub r.1 s then o ||| r.2 else o) s = step R s from rfl, h] at this
    exact this
  · intro h
    exact sub_antisymm (step_le_of (sub_refl s) h) (sub_step R s)
def iter (R : Rules) : Nat → Nat → Nat
  | 0, s => s
  | k + 1, s => iter R k (step R s)
/-- the least superset that respects the rules (all sets below 256) -/
def clo (R : Rules) (s : Nat) : Nat := iter R 256 s
def small (R : Rules) : Prop := ∀ r ∈ R, r.1 < 256 ∧ r.2 < 256
theorem step_lt {R : Rules} {s : Nat} (hR : small R) (hs : s < 256) : step R s < 256 := by
  have h := (fold_spec R s s).2.2 255 (sub_iff.2 fun i hi => ?_) (fun r hr _ => sub_iff.2 fun i hi => ?_)
  · have := sub_le h; unfold step; omega
  all_goals
    have : i < 8 := by
      rcases Nat.lt_or_ge i 8 with h | h
      · exact h
      · exfalso
        rw [Nat.testBit_lt_two_pow] at hi
        · cases hi
        · have h8 : 2 ^ 8 ≤ 2 ^ i := Nat.pow_le_pow_right (by decide) h
          first | omega | (have := (hR r hr).2; omega)
    rw [show (255 : Nat) = 2 ^ 8 - 1 from rfl, Nat.testBit_two_pow_sub_one]
    simpa using this
theorem iter_spec {R : Rules} (hR : small R) : ∀ k s, s < 256 → 256 ≤ s + k → (iter R k s < 256 ∧ sub s (iter R k s) = true ∧ resp R (iter R k s) ∧ ∀ t, sub s t = true → resp R t → sub (iter R k s) t = true) := by
  intro k
  induction k with
  | zero => intro s hs h; omega
  | succ k ih =>
    intro s hs h
    rw [iter]
    by_cases e : step R s = s
    · rw [e]
      have : ∀ k, iter R k s = s := by
        intro k
        induction k with
        | zero => rfl
        | succ k ih => rw [iter, e, ih]
      rw [this]
      exact ⟨hs, sub_refl s, step_fix.1 e, fun t ht _ => ht⟩
    · have hlt : s < step R s := by have := sub_le (sub_step R s); omega
      obtain ⟨h1, h2, h3, h4⟩ := ih (step R s) (step_lt hR hs) (by omega)
      exact ⟨h1, sub_trans (sub_step R s) h2, h3, fun t ht hr => h4 t (step_le_of ht hr) hr⟩
theorem clo_spec {R : Rules} (hR : small R) {s : Nat} (hs : s < 256) : clo R s < 256 ∧ sub s (clo R s) = true ∧ resp R (clo R s) ∧ ∀ t, sub s t = true → resp R t → sub (clo R s) t = true :=
  iter_spec hR 256 s hs (by omega)
theorem clo_unique {R : Rules} (hR : small R) {s r : Nat} (hs : s < 256) (h1 : sub s r = true) (h2 : resp R r) (h3 : ∀ t, sub s t = true → resp R t → sub r t = true) : r = clo R s :=
  sub_antisymm (h3 _ (clo_spec hR hs).2.1 (clo_spec hR hs).2.2.1) ((clo_spec hR hs).2.2.2 r h1 h2)
/-- the number whose bit i is f i, for i below k -/
def ofBits (f : Nat → Bool) : Nat → Nat
  | 0 => 0
  | k + 1 => ofBits f k ||| (if f k then 2 ^ k else 0)
theorem ofBits_lt (f : Nat → Bool) : ∀ k, ofBits f k < 2 ^ k
  | 0 => by simp [ofBits]
  | k + 1 => by
    have h := ofBits_lt f k
    have h2 : 2 ^ k < 2 ^ (k + 1) := Nat.pow_lt_pow_right (by decide) (by omega)
    unfold ofBits
    refine Nat.or_lt_two_pow (Nat.lt_trans h h2) ?_
    split
    · exact h2
    · exact Nat.two_pow_pos _
theorem testBit_ofBits (f : Nat → Bool) (i : Nat) : ∀ k, (ofBits f k).testBit i = (decide (i < k) && f i)
  | 0 => by simp [ofBits]
  | k + 1 => by
    unfold ofBits
    rw [Nat.testBit_or, testBit_ofBits f i k]
    by_cases h : i < k
    · have hk : ¬ (k = i) := by omega
      have : (if f k = true then 2 ^ k else 0 : Nat).testBit i = false := by
        split
        · rw [Nat.testBit_two_pow]; simp [hk]
        · simp
      simp [this, h, show i < k + 1 from by omega]
    · by_cases e : i = k
      · subst e
        cases hf : f i <;> simp
      · have : (if f k = true then 2 ^ k else 0 : Nat).testBit i = false := by
          split
          · rw [Nat.testBit_two_pow]; simp [show ¬ k = i from fun h => e h.symm]
          · simp
        simp [this, h, show ¬ i < k + 1 from by omega]
theorem lt_two_pow_iff {a k : Nat} : a < 2 ^ k ↔ ∀ i, k ≤ i → a.testBit i = false := by
  constructor
  · intro h i hi
    exact Nat.testBit_lt_two_pow (Nat.lt_of_lt_of_le h (Nat.pow_le_pow_right (by decide) hi))
  · intro h
    exact Nat.lt_pow_two_of_testBit a h
/-- i, i + 1, .. , n - 1 -/
def foldIdx {σ : Type} (f : Nat → σ → σ) (i n : Nat) (s : σ) : σ := (List.range' i (n - i)).foldl (fun s j => f j s) s
theorem foldIdx_end {σ : Type} (f : Nat → σ → σ) {i n : Nat} (h : n ≤ i) (s : σ) : foldIdx f i n s = s := by
  unfold foldIdx; rw [Nat.sub_eq_zero_of_le h]; rfl
theorem foldIdx_step {σ : Type} (f : Nat → σ → σ) {i n : Nat} (h : i < n) (s : σ) : foldIdx f i n s = foldIdx f (i + 1) n (f i s) := by
  unfold foldIdx
  obtain ⟨d, rfl⟩ : ∃ d, n = i + 1 + d := ⟨n - (i + 1), by omega⟩
  rw [show i + 1 + d - i = d + 1 from by omega, show i + 1 + d - (i + 1) = d from by omega, List.range'_succ, List.foldl_cons]
theorem foldIdx_last {σ : Type} (f : Nat → σ → σ) {i n : Nat} (h : i ≤ n) (s : σ) : foldIdx f i (n + 1) s = f n (foldIdx f i n s) := by
  unfold foldIdx
  rw [show n + 1 - i = (n - i) + 1 from by omega, List.range'_concat, List.foldl_append]
  simp only [List.foldl_cons, List.foldl_nil]
  congr 1
  omega
theorem clo_of_between {R : Rules} (hR : small R) {s u : Nat} (hs : s < 256) (hu : u < 256) (h1 : sub s u = true) (h2 : ∀ t, sub s t = true → resp R t → sub u t = true) : clo R u = clo R s := by
  obtain ⟨_, b, c, d⟩ := clo_spec hR hu
  exact clo_unique hR hs (sub_trans h1 b) c fun t ht hr => d t (h2 t ht hr) hr
theorem clo_fix {R : Rules} (hR : small R) {s : Nat} (hs : s < 256) : clo R s = s ↔ resp R s := by
  constructor
  · intro h; have := (clo_spec hR hs).2.2.1; rwa [h] at this
  · intro h; exact (clo_unique hR hs (sub_refl s) h (fun t ht _ => ht)).symm
theorem clo_step {R : Rules} (hR : small R) {s : Nat} (hs : s < 256) : clo R (step R s) = clo R s :=
  clo_of_between hR hs (step_lt hR hs) (sub_step R s) (fun _ ht hr => step_le_of ht hr)
/-- one sweep over the rules, the set growing as it goes -/
def sweep (R : Rules) (p : Nat × Bool) : Nat × Bool := R.foldl (fun p r => if sub r.1 p.1 && !sub r.2 p.1 then (p.1 ||| r.2, true) else p) p
theorem sweep_spec (R : Rules) : ∀ (p : Nat × Bool), sub p.1 (sweep R p).1 = true ∧ ((∀ r ∈ R, r.2 < 256) → p.1 < 256 → (sweep R p).1 < 256) ∧
    (∀ t, sub p.1 t = true → resp R t → sub (sweep R p).1 t = true) ∧
    ((sweep R p).2 = false → p.2 = false ∧ (sweep R p).1 = p.1 ∧ resp R p.1) ∧
    (p.2 = false → (sweep R p).2 = true → p.1 < (sweep R p).1) := by
  induction R with
  | nil => intro p; exact ⟨sub_refl _, fun _ h => h, fun t h _ => h, fun h => ⟨h, rfl, fun r hr => by simp at hr⟩, fun h h' => by rw [show sweep [] p = p from rfl, h] at h'; cases h'⟩
  | cons r R ih =>
    intro p
    rw [show sweep (r :: R) p = sweep R (if sub r.1 p.1 && !sub r.2 p.1 then (p.1 ||| r.2, true) else p) from rfl]
    by_cases hc : (sub r.1 p.1 && !sub r.2 p.1) = true
    · rw [if_pos hc]
      rw [Bool.and_eq_true] at hc
      obtain ⟨hc1, hc2⟩ := hc
      obtain ⟨a, b, c, d, e⟩ := ih (p.1 ||| r.2, true)
      have hlt : p.1 < p.1 ||| r.2 := by
        have h1 := sub_le (sub_or_left p.1 r.2)
        rcases Nat.lt_or_ge p.1 (p.1 ||| r.2) with h | h
        · exact h
        · have he : p.1 ||| r.2 = p.1 := Nat.le_antisymm h h1
          have := sub_or_right p.1 r.2
          rw [he] at this
          rw [this] at hc2; cases hc2
      refine ⟨sub_trans (sub_or_left _ _) a, fun h hp => b (fun q hq => h q (List.mem_cons_of_mem _ hq)) (Nat.or_lt_two_pow (n := 8) hp (h r List.mem_cons_self)), ?_, ?_, ?_⟩
      · intro t ht hr
        exact c t (or_sub ht (hr r List.mem_cons_self (sub_trans hc1 ht))) (fun q hq => hr q (List.mem_cons_of_mem _ hq))
      · intro h
        have := (d h).1
        cases this
      · intro _ _
        exact Nat.lt_of_lt_of_le hlt (sub_le a)
    · rw [if_neg hc]
      obtain ⟨a, b, c, d, e⟩ := ih p
      refine ⟨a, fun h hp => b (fun q hq => h q (List.mem_cons_of_mem _ hq)) hp, fun t ht hr => c t ht (fun q hq => hr q (List.mem_cons_of_mem _ hq)), ?_, e⟩
      intro h
      obtain ⟨d1, d2, d3⟩ := d h
      refine ⟨d1, d2, fun q hq hs => ?_⟩
      rcases List.mem_cons.1 hq with rfl | hq
      · rw [hs, Bool.true_and] at hc
        simpa using hc
      · exact d3 q hq hs
end Go.Proofs.YtbflblmkdnhboaaGreatDoor.Pu
namespace Go.Proofs.YtbflblmkdnhboaaGreatDoor.Pu
open Go.RowKit Go.Proofs.YtbflblmkdnhboaaGreatDoorW.PrintWords
theorem wraps_i64 (n : Int) (h₀ : 0 ≤ n) (h₁ : n < 2 ^ 63) : IntKind.i64.wrap n = n := by rw [IntKind.wrap_i64]; omega
theorem and_nat {a b : Nat} (ha : a < 2 ^ 63) (hb : b < 2 ^ 63) : Go.bits .and .i64 (a : Int) (b : Int) = ((a &&& b : Nat) : Int) := (bits_nat .i64 63 (by decide) wraps_i64 a b ha hb).1
theorem or_nat {a b : Nat} (ha : a < 2 ^ 63) (hb : b < 2 ^ 63) : Go.bits .or .i64 (a : Int) (b : Int) = ((a ||| b : Nat) : Int) := (bits_nat .i64 63 (by decide) wraps_i64 a b ha hb).2
theorem bits_xor_nat (k : IntKind) (j : Nat) (hj : j ≤ k.bits) (hk : ∀ n : Int, 0 ≤ n → n < 2 ^ j → k.wrap n = n) (a b : Nat) (ha : a < 2 ^ j) (hb : b < 2 ^ j) : bits .xor k a b = ((a ^^^ b : Nat) : Int) := by
  have hp : 2 ^ j ≤ 2 ^ k.bits := Nat.pow_le_pow_right (by decide) hj
  have ha' : a % 2 ^ k.bits = a := Nat.mod_eq_of_lt (Nat.lt_of_lt_of_le ha hp)
  have hb' : b % 2 ^ k.bits = b := Nat.mod_eq_of_lt (Nat.lt_of_lt_of_le hb hp)
  have cast : ∀ n : Nat, n < 2 ^ j → ((n : Nat) : Int) < 2 ^ j := fun n h => by exact_mod_cast h
  simp only [bits, BitVec.ofInt_natCast, BitVec.toNat_xor, BitVec.toNat_ofNat, ha', hb']
  exact hk _ (Int.natCast_nonneg _) (cast _ (Nat.xor_lt_two_pow ha hb))
theorem diff_le (a b : Nat) : diff a b ≤ a := by
  refine sub_le (sub_iff.2 fun i hi => ?_)
  rw [testBit_diff] at hi
  exact (Bool.and_eq_true_iff.1 hi).1
theorem bits_andNot_nat (k : IntKind) (j : Nat) (hj : j ≤ k.bits) (hk : ∀ n : Int, 0 ≤ n → n < 2 ^ j → k.wrap n = n) (a b : Nat) (ha : a < 2 ^ j) (hb : b < 2 ^ j) : bits .andNot k a b = ((diff a b : Nat) : Int) := by
  have hp : 2 ^ j ≤ 2 ^ k.bits := Nat.pow_le_pow_right (by decide) hj
  have ha' : a % 2 ^ k.bits = a := Nat.mod_eq_of_lt (Nat.lt_of_lt_of_le ha hp)
  have hb' : b % 2 ^ k.bits = b := Nat.mod_eq_of_lt (Nat.lt_of_lt_of_le hb hp)
  have cast : ∀ n : Nat, n < 2 ^ j → ((n : Nat) : Int) < 2 ^ j := fun n h => by exact_mod_cast h
  have e : (BitVec.ofNat k.bits a &&& ~~~(BitVec.ofNat k.bits b)).toNat = diff a b := by
    apply Nat.eq_of_testBit_eq
    intro i
    rw [testBit_diff, BitVec.toNat_and, Nat.testBit_and, BitVec.toNat_ofNat, ha']
    by_cases hi : i < k.bits
    · rw [show ((~~~(BitVec.ofNat k.bits b)).toNat).testBit i = (~~~(BitVec.ofNat k.bits b)).getLsbD i from rfl, BitVec.getLsbD_not]
      simp [hi, BitVec.getLsbD, hb']
    · rw [Nat.testBit_lt_two_pow (x := a) (i := i) (Nat.lt_of_lt_of_le ha (Nat.pow_le_pow_right (by decide) (by omega)))]
      simp
  simp only [bits, BitVec.ofInt_natCast, e]
  exact hk _ (Int.natCast_nonneg _) (cast _ (Nat.lt_of_le_of_lt (diff_le a b) ha))
theorem xor_nat {a b : Nat} (ha : a < 2 ^ 63) (hb : b < 2 ^ 63) : Go.bits .xor .i64 (a : Int) (b : Int) = ((a ^^^ b : Nat) : Int) := bits_xor_nat .i64 63 (by decide) wraps_i64 a b ha hb
theorem andNot_nat {a b : Nat} (ha : a < 2 ^ 63) (hb : b < 2 ^ 63) : Go.bits .andNot .i64 (a : Int) (b : Int) = ((diff a b : Nat) : Int) := bits_andNot_nat .i64 63 (by decide) wraps_i64 a b ha hb
/-- a set: a number from 0 to 2^n - 1, n from 0 to 8 -/
def isSetB (n s : Int) : Bool := decide (0 ≤ n ∧ n ≤ 8 ∧ 0 ≤ s ∧ s < 2 ^ n.toNat)
def isAny (s : Int) : Bool := decide (0 ≤ s ∧ s < 256)
theorem isSetB_8 (s : Int) : isSetB 8 s = isAny s := by
  unfold isSetB isAny
  rw [show (8 : Int).toNat = 8 from rfl]
  have : (2 : Int) ^ 8 = 256 := by decide
  rw [this]
  simp
theorem isAny_nat {s : Int} (h : isAny s = true) : ∃ a : Nat, a < 256 ∧ s = (a : Int) := by
  unfold isAny at h
  have := of_decide_eq_true h
  exact ⟨s.toNat, by omega, by omega⟩
theorem isSetB_nat {n s : Int} (h : isSetB n s = true) : ∃ m a : Nat, m ≤ 8 ∧ n = (m : Int) ∧ a < 2 ^ m ∧ s = (a : Int) := by
  unfold isSetB at h
  obtain ⟨h1, h2, h3, h4⟩ := of_decide_eq_true h
  refine ⟨n.toNat, s.toNat, by omega, by omega, ?_, by omega⟩
  have : ((s.toNat : Nat) : Int) < ((2 ^ n.toNat : Nat) : Int) := by rw [Int.toNat_of_nonneg h3]; simpa using h4
  exact_mod_cast this
theorem isSetB_mk {m a : Nat} (hm : m ≤ 8) (ha : a < 2 ^ m) : isSetB (m : Int) (a : Int) = true := by
  unfold isSetB
  have : ((a : Nat) : Int) < ((2 ^ m : Nat) : Int) := by exact_mod_cast ha
  rw [decide_eq_true_iff]
  refine ⟨by omega, by omega, by omega, ?_⟩
  simpa using this
theorem isSetB_any {n s : Int} (h : isSetB n s = true) : isAny s = true := by
  obtain ⟨m, a, hm, rfl, ha, rfl⟩ := isSetB_nat h
  have : a < 2 ^ 8 := Nat.lt_of_lt_of_le ha (Nat.pow_le_pow_right (by decide) hm)
  unfold isAny
  rw [decide_eq_true_iff]
  omega
theorem upper_val (n : Int) (h0 : 0 ≤ n) (h1 : n ≤ 8) : wrap64 ((shl .i64 1 n) - 1) = 2 ^ n.toNat - 1 := by
  have h : n = 0 ∨ n = 1 ∨ n = 2 ∨ n = 3 ∨ n = 4 ∨ n = 5 ∨ n = 6 ∨ n = 7 ∨ n = 8 := by omega
  rcases h with rfl | rfl | rfl | rfl | rfl | rfl | rfl | rfl | rfl <;> decide +kernel
theorem wrapU_val (n : Int) (h0 : 0 ≤ n) (h1 : n ≤ 8) : IntKind.u64.wrap n = n := by
  have h : n = 0 ∨ n = 1 ∨ n = 2 ∨ n = 3 ∨ n = 4 ∨ n = 5 ∨ n = 6 ∨ n = 7 ∨ n = 8 := by omega
  rcases h with rfl | rfl | rfl | rfl | rfl | rfl | rfl | rfl | rfl <;> decide +kernel
end Go.Proofs.YtbflblmkdnhboaaGreatDoor.Pu
namespace Go.Proofs.YtbflblmkdnhboaaGreatDoor.Pu
open Go.RowKit Go.Proofs.YtbflblmkdnhboaaGreatDoorW.PrintWords Go.Proofs.YtbflblmkdnhboaaGreatDoorW.PrintLast Go.Proofs.YtbflblmkdnhboaaGreatDoorW.PrintMore Go.Proofs.YtbflblmkdnhboaaGreatDoor.Pr
theorem wrap_succ {i n : Nat} (h : i < n) (hn : n ≤ 9223372036854775807) : wrap64 ((i : Int) + 1) = ((i + 1 : Nat) : Int) := by unfold wrap64; omega
theorem drop_nil {α : Type} {l : List α} {i : Nat} (h : l.drop i = []) : l.length ≤ i := by
  have := congrArg List.length h
  simp at this; omega
theorem drop_cons {α : Type} {l rest : List α} {i : Nat} {x d : α} (h : l.drop i = x :: rest) : i < l.length ∧ l.getD i d = x ∧ l.drop (i + 1) = rest := by
  have hi : i < l.length := by
    rcases Nat.lt_or_ge i l.length with h' | h'
    · exact h'
    · rw [List.drop_of_length_le h'] at h; cases h
  rw [List.drop_eq_getElem_cons hi] at h
  injection h with h1 h2
  exact ⟨hi, by rw [List.getD_eq_getElem?_getD, List.getElem?_eq_getElem hi]; exact h1, h2⟩
theorem rd_nat (l : List Int) (i : Nat) : rd l (i : Int) = l.getD i 0 := by unfold rd; rw [Int.toNat_natCast]
end Go.Proofs.YtbflblmkdnhboaaGreatDoor.Pu
namespace Go.Proofs.YtbflblmkdnhboaaGreatDoor.Pu
open Go.RowKit Go.Proofs.YtbflblmkdnhboaaGreatDoorW.PrintWords Go.Proofs.YtbflblmkdnhboaaGreatDoorW.PrintLast Go.Proofs.YtbflblmkdnhboaaGreatDoorW.PrintMore Go.Proofs.YtbflblmkdnhboaaGreatDoor.Pr
theorem l1In_val (a b c : Int) : spec_l1In.f a b c = some (decide (b ≤ a ∧ a ≤ c)) := by
  unfold spec_l1In.f
  by_cases h : b ≤ a
  · rw [if_pos h]; simp [h]
  · rw [if_neg h]; simp [h]
theorem within_val (a b c : Int) : impl_within.f a b c = some (decide (b ≤ a ∧ a ≤ c)) := by
  unfold impl_within.f
  by_cases h : b ≤ a
  · rw [if_pos h]; simp [h]
  · rw [if_neg h]; simp [h]
theorem setB_of {n s : Int} (h : 0 ≤ n ∧ n ≤ 8) : decide (0 ≤ s ∧ s ≤ 2 ^ n.toNat - 1) = isSetB n s := by
  unfold isSetB
  generalize (2 : Int) ^ n.toNat = q
  rw [decide_eq_decide]
  omega
theorem setB_not {n s : Int} (h : ¬ (0 ≤ n ∧ n ≤ 8)) : isSetB n s = false := by
  unfold isSetB
  rw [decide_eq_false_iff_not]
  omega
theorem specSet_val (n s : Int) : spec_IsSet.f n s = some (isSetB n s) := by
  unfold spec_IsSet.f
  rw [l1In_val, Option.bind_some]
  by_cases h : 0 ≤ n ∧ n ≤ 8
  · rw [if_pos (decide_eq_true h), wrapU_val n h.1 h.2, if_pos h.1, upper_val n h.1 h.2, l1In_val, Option.bind_some, setB_of h]
  · rw [if_neg (by simpa using h), setB_not h]
theorem set_val (n s : Int) : impl_IsSet.f n s = some (isSetB n s) := by
  unfold impl_IsSet.f
  rw [within_val, Option.bind_some]
  by_cases h : 0 ≤ n ∧ n ≤ 8
  · rw [if_pos (decide_eq_true h), if_pos h.1, upper_val n h.1 h.2, within_val, Option.bind_some, setB_of h]
  · rw [if_neg (by simpa using h), setB_not h]
theorem any_val (s : Int) : impl_isAnySet.f s = some (isAny s) := by
  unfold impl_isAnySet.f
  rw [set_val, Option.bind_some, isSetB_8]
theorem rule_val (n a b : Int) : spec_l9Rule.f n a b = some (isSetB n a && isSetB n b) := by
  unfold spec_l9Rule.f
  rw [specSet_val, Option.bind_some]
  cases isSetB n a with
  | false => rfl
  | true => rw [if_pos rfl, specSet_val, Option.bind_some]; rfl
end Go.Proofs.YtbflblmkdnhboaaGreatDoor.Pu
namespace Go.Proofs.YtbflblmkdnhboaaGreatDoor.Pu
open Go.RowKit Go.Proofs.YtbflblmkdnhboaaGreatDoorW.PrintWords Go.Proofs.YtbflblmkdnhboaaGreatDoorW.PrintLast Go.Proofs.YtbflblmkdnhboaaGreatDoorW.PrintMore Go.Proofs.YtbflblmkdnhboaaGreatDoor.Pr
theorem shr_nat (a e : Nat) (he : e ≤ 64) : shr .i64 (a : Int) (e : Int) = ((a / 2 ^ e : Nat) : Int) := by
  unfold shr
  rw [Int.toNat_natCast, show (IntKind.i64).bits = 64 from rfl, Nat.min_eq_left he]
  simp
theorem bit_val (a e : Nat) (ha : a < 2 ^ 63) (he : e ≤ 64) : (Go.bits .and .i64 (shr .i64 (a : Int) (e : Int)) 1 == 1) = a.testBit e := by
  rw [shr_nat a e he]
  have h1 : a / 2 ^ e < 2 ^ 63 := Nat.lt_of_le_of_lt (Nat.div_le_self _ _) ha
  have h2 := and_nat h1 (show 1 < 2 ^ 63 by decide)
  rw [show ((1 : Nat) : Int) = 1 from rfl] at h2
  rw [h2, Nat.and_one_is_mod, Nat.testBit_eq_decide_div_mod_eq, Bool.eq_iff_iff, beq_iff_eq, decide_eq_true_iff]
  omega
def hasV (s e : Int) : Bool := isAny s && (decide (0 ≤ e ∧ e ≤ 7) && s.toNat.testBit e.toNat)
theorem wrapU_small (e : Int) (h0 : 0 ≤ e) (h1 : e ≤ 64) : IntKind.u64.wrap e = e := by
  simp [IntKind.wrap, IntKind.bits, IntKind.signed]
  omega
theorem l2Has_val (a e : Nat) (ha : a < 2 ^ 63) (he : e ≤ 64) : spec_l2Has.f (a : Int) (e : Int) = some (a.testBit e) := by
  unfold spec_l2Has.f
  rw [wrapU_small _ (by omega) (by omega), if_pos (by omega), bit_val a e ha he]
theorem hasI_val (s e : Int) : impl_HasElement.f s e = some (hasV s e) := by
  unfold impl_HasElement.f hasV
  rw [any_val, Option.bind_some]
  cases hs : isAny s with
  | false => rfl
  | true =>
    obtain ⟨a, ha, rfl⟩ := isAny_nat hs
    rw [if_pos rfl, within_val, Option.bind_some]
    by_cases he : 0 ≤ e ∧ e ≤ 7
    · obtain ⟨n, rfl⟩ : ∃ n : Nat, e = (n : Int) := ⟨e.toNat, by omega⟩
      rw [if_pos (decide_eq_true he), if_pos he.1, bit_val a n (by omega) (by omega), decide_eq_true he]
      simp
    · rw [if_neg (by simpa using he), decide_eq_false he]
      rfl
end Go.Proofs.YtbflblmkdnhboaaGreatDoor.Pu
namespace Go.Proofs.YtbflblmkdnhboaaGreatDoor.Pu
/-- the number whose eight bits stand the other way round -/
def rv (s : Nat) : Nat := ((s &&& 1) <<< 7) ||| ((s &&& 2) <<< 5) ||| ((s &&& 4) <<< 3) ||| ((s &&& 8) <<< 1) ||| ((s &&& 16) >>> 1) ||| ((s &&& 32) >>> 3) ||| ((s &&& 64) >>> 5) ||| ((s &&& 128) >>> 7)
def bef (s t : Nat) : Bool := decide (rv s < rv t)
theorem rv_all : ∀ s : Fin 256, rv (rv s.val) = s.val ∧ rv s.val < 256 := by decide +kernel
theorem rv_rv {s : Nat} (h : s < 256) : rv (rv s) = s := (rv_all ⟨s, h⟩).1
theorem rv_lt {s : Nat} (h : s < 256) : rv s < 256 := (rv_all ⟨s, h⟩).2
theorem rv_inj {s t : Nat} (hs : s < 256) (ht : t < 256) (h : rv s = rv t) : s = t := by rw [← rv_rv hs, ← rv_rv ht, h]
/-- all sets, in lectic order -/
def all8 : List Nat := (List.range 256).map rv
def lecS (L : List Nat) : Prop := L.Pairwise fun a b => rv a < rv b
theorem all8_sorted : lecS all8 := by
  unfold lecS all8
  refine List.pairwise_map.2 (List.Pairwise.imp_of_mem ?_ List.pairwise_lt_range)
  intro a b ha hb h
  rw [rv_rv (List.mem_range.1 ha), rv_rv (List.mem_range.1 hb)]
  exact h
theorem mem_all8 {s : Nat} : s ∈ all8 ↔ s < 256 := by
  unfold all8
  rw [List.mem_map]
  constructor
  · rintro ⟨i, hi, rfl⟩
    exact rv_lt (List.mem_range.1 hi)
  · intro h
    exact ⟨rv s, List.mem_range.2 (rv_lt h), rv_rv h⟩
theorem sorted_filter {T L : List Nat} : lecS T → lecS L → (∀ x ∈ L, x ∈ T) → L = T.filter fun x => decide (x ∈ L) := by
  induction T generalizing L with
  | nil =>
    intro _ _ h
    cases L with
    | nil => rfl
    | cons x L => exact absurd (h x List.mem_cons_self) (by simp)
  | cons t T ih =>
    intro hT hL h
    have hT' := List.pairwise_cons.1 hT
    by_cases ht : t ∈ L
    · cases L with
      | nil => cases ht
      | cons l L =>
        have hL' := List.pairwise_cons.1 hL
        have e : l = t := by
          by_cases e : l = t
          · exact e
          · exfalso
            have h1 : t ∈ L := by
              rcases List.mem_cons.1 ht with h | h
              · exact absurd h.symm e
              · exact h
            have h2 := hL'.1 t h1
            have h3 : l ∈ T := by
              rcases List.mem_cons.1 (h l List.mem_cons_self) with h | h
              · exact absurd h e
              · exact h
            have h4 := hT'.1 l h3
            omega
        subst e
        rw [List.filter_cons_of_pos (by simp)]
        refine congrArg (l :: ·) ?_
        have h5 : ∀ x ∈ L, x ∈ T := fun x hx => by
          rcases List.mem_cons.1 (h x (List.mem_cons_of_mem _ hx)) with h6 | h6
          · subst h6; exact absurd (hL'.1 x hx) (Nat.lt_irrefl _)
          · exact h6
        rw [ih hT'.2 hL'.2 h5]
        refine List.filter_congr fun x hx => ?_
        have hne : x ≠ l := fun e => absurd (hT'.1 x hx) (by rw [e]; exact Nat.lt_irrefl _)
        rw [decide_eq_decide]
        have e0 := ih hT'.2 hL'.2 h5
        rw [← e0, List.mem_cons]
        exact ⟨Or.inr, fun h => h.resolve_left hne⟩
    · rw [List.filter_cons_of_neg (by simpa using ht)]
      refine ih hT'.2 hL fun x hx => ?_
      rcases List.mem_cons.1 (h x hx) with h6 | h6
      · subst h6; exact absurd hx ht
      · exact h6
def lecF (p : Nat → Bool) : List Nat := all8.filter p
theorem mem_lecF {p : Nat → Bool} {s : Nat} : s ∈ lecF p ↔ s < 256 ∧ p s = true := by unfold lecF; rw [List.mem_filter, mem_all8]
theorem lecF_sorted (p : Nat → Bool) : lecS (lecF p) := List.Pairwise.filter p all8_sorted
theorem lec_unique {L : List Nat} (h : lecS L) (hb : ∀ x ∈ L, x < 256) : L = lecF fun s => decide (s ∈ L) := sorted_filter all8_sorted h fun x hx => mem_all8.2 (hb x hx)
theorem lecF_congr {p q : Nat → Bool} (h : ∀ s, s < 256 → p s = q s) : lecF p = lecF q := List.filter_congr fun s hs => h s (mem_all8.1 hs)
theorem lec_eq {L : List Nat} {p : Nat → Bool} (h : lecS L) (hb : ∀ x, x ∈ L ↔ x < 256 ∧ p x = true) : L = lecF p := by
  rw [lec_unique h fun x hx => ((hb x).1 hx).1]
  refine lecF_congr fun s hs => ?_
  rw [Bool.eq_iff_iff, decide_eq_true_iff, hb]
  exact ⟨fun h => h.2, fun h => ⟨hs, h⟩⟩
/-- an element put where it belongs -/
def insL (o : List Nat) (x : Nat) : List Nat := if x ∈ o then o else (o.takeWhile fun y => bef y x) ++ x :: o.dropWhile fun y => bef y x
theorem mem_insL {o : List Nat} {x y : Nat} : y ∈ insL o x ↔ y = x ∨ y ∈ o := by
  unfold insL
  split
  · rename_i h
    exact ⟨Or.inr, fun h' => h'.elim (fun e => e ▸ h) id⟩
  · rw [List.mem_append, List.mem_cons]
    have := @List.takeWhile_append_dropWhile _ (fun y => bef y x) o
    constructor
    · rintro (h | h | h)
      · right; rw [← this]; exact List.mem_append_left _ h
      · exact Or.inl h
      · right; rw [← this]; exact List.mem_append_right _ h
    · rintro (h | h)
      · exact Or.inr (Or.inl h)
      · rw [← this] at h
        rcases List.mem_append.1 h with h | h
        · exact Or.inl h
        · exact Or.inr (Or.inr h)
theorem takeWhile_bef {o : List Nat} {x : Nat} : ∀ y ∈ o.takeWhile (fun y => bef y x), rv y < rv x := by
  induction o with
  | nil => intro y hy; cases hy
  | cons a o ih =>
    intro y hy
    by_cases h : bef a x = true
    · rw [List.takeWhile_cons_of_pos (p := fun y => bef y x) h] at hy
      rcases List.mem_cons.1 hy with rfl | hy
      · unfold bef at h; simpa using h
      · exact ih y hy
    · rw [List.takeWhile_cons_of_neg (p := fun y => bef y x) (by simpa using h)] at hy
      cases hy
theorem insL_sorted {o : List Nat} {x : Nat} (ho : lecS o) (hb : ∀ y ∈ o, y < 256) (hx : x < 256) : lecS (insL o x) := by
  unfold insL
  split
  · exact ho
  · rename_i hn
    have e := @List.takeWhile_append_dropWhile _ (fun y => bef y x) o
    have ho' := ho
    unfold lecS at ho' ⊢
    rw [← e, List.pairwise_append] at ho'
    obtain ⟨h1, h2, h3⟩ := ho'
    have hd : ∀ y ∈ o.dropWhile (fun y => bef y x), rv x < rv y := by
      cases hq : o.dropWhile (fun y => bef y x) with
      | nil => intro y hy; cases hy
      | cons a d =>
        have ha : bef a x = false := by
          have := List.head?_dropWhile_not (fun y => bef y x) o
          rw [hq] at this
          simpa using this
        have hmem : ∀ y ∈ a :: d, y ∈ o := fun y hy => by rw [← e, hq]; exact List.mem_append_right _ hy
        have hax : rv x < rv a := by
          unfold bef at ha
          have h4 : ¬ rv a < rv x := by simpa using ha
          have h5 : rv a ≠ rv x := fun h => hn (rv_inj (hb a (hmem a List.mem_cons_self)) hx h ▸ hmem a List.mem_cons_self)
          omega
        intro y hy
        rcases List.mem_cons.1 hy with rfl | hy
        · exact hax
        · rw [hq] at h2
          have := (List.pairwise_cons.1 h2).1 y hy
          omega
    rw [List.pairwise_append]
    refine ⟨h1, List.pairwise_cons.2 ⟨hd, h2⟩, fun a ha b hb' => ?_⟩
    have h4 := takeWhile_bef a ha
    rcases List.mem_cons.1 hb' with rfl | hb'
    · exact h4
    · have := hd b hb'
      omega
theorem fold_insL : ∀ (L o : List Nat), lecS o → (∀ y ∈ o, y < 256) → (∀ y ∈ L, y < 256) → lecS (L.foldl insL o) ∧ ∀ y, y ∈ L.foldl insL o ↔ y ∈ o ∨ y ∈ L := by
  intro L
  induction L with
  | nil => intro o h _ _; exact ⟨h, fun y => by simp⟩
  | cons x L ih =>
    intro o h hb hL
    have hx := hL x List.mem_cons_self
    obtain ⟨h1, h2⟩ := ih (insL o x) (insL_sorted h hb hx) (fun y hy => by
      rcases mem_insL.1 hy with rfl | hy
      · exact hx
      · exact hb y hy) fun y hy => hL y (List.mem_cons_of_mem _ hy)
    refine ⟨h1, fun y => ?_⟩
    rw [List.foldl_cons, h2, mem_insL, List.mem_cons]
    constructor
    · rintro ((h | h) | h)
      · exact Or.inr (Or.inl h)
      · exact Or.inl h
      · exact Or.inr (Or.inr h)
    · rintro (h | h | h)
      · exact Or.inl (Or.inr h)
      · exact Or.inl (Or.inl h)
      · exact Or.inr h
theorem foldl_insL {L : List Nat} (hL : ∀ y ∈ L, y < 256) : L.foldl insL [] = lecF fun s => decide (s ∈ L) := by
  obtain ⟨h1, h2⟩ := fold_insL L [] List.Pairwise.nil (fun y hy => by cases hy) hL
  refine lec_eq h1 fun x => ?_
  rw [h2, decide_eq_true_iff]
  constructor
  · rintro (h | h)
    · cases h
    · exact ⟨hL x h, h⟩
  · exact fun h => Or.inr h.2
end Go.Proofs.YtbflblmkdnhboaaGreatDoor.Pu
namespace Go.Proofs.YtbflblmkdnhboaaGreatDoor.Pu
open Go.RowKit Go.Proofs.YtbflblmkdnhboaaGreatDoorW.PrintWords Go.Proofs.YtbflblmkdnhboaaGreatDoorW.PrintLast Go.Proofs.YtbflblmkdnhboaaGreatDoorW.PrintMore Go.Proofs.YtbflblmkdnhboaaGreatDoor.Pr
def low (d : Nat) : Nat := d &&& (256 - d)
theorem low_int : ∀ d : Fin 256, Go.bits .and .i64 ((d.val : Nat) : Int) (wrap64 (-((d.val : Nat) : Int))) = ((low d.val : Nat) : Int) := by decide +kernel
theorem low_bef_all : ((List.range 256).all fun s => (List.range 256).all fun t => ((t &&& low (s ^^^ t)) != 0) == bef s t) = true := by decide +kernel
theorem low_bef {s t : Nat} (hs : s < 256) (ht : t < 256) : ((t &&& low (s ^^^ t)) != 0) = bef s t := by
  have := List.all_eq_true.1 low_bef_all s (List.mem_range.2 hs)
  exact eq_of_beq (List.all_eq_true.1 this t (List.mem_range.2 ht))
theorem ctz_low : ∀ d : Fin 256, d.val ≠ 0 → Lib.ctz 64 d.val ≤ 7 ∧ 2 ^ Lib.ctz 64 d.val = low d.val := by decide +kernel
theorem bit_low : ∀ t : Fin 256, ∀ i : Fin 8, t.val.testBit i.val = ((t.val &&& 2 ^ i.val) != 0) := by decide +kernel
theorem bef_irrefl (s : Nat) : bef s s = false := by unfold bef; exact decide_eq_false (Nat.lt_irrefl _)
theorem xor_zero_eq {a b : Nat} (e : a ^^^ b = 0) : a = b := by
  have e2 : (a ^^^ b) ^^^ b = 0 ^^^ b := by rw [e]
  rw [Nat.xor_assoc, Nat.xor_self, Nat.xor_zero, Nat.zero_xor] at e2
  exact e2
def befV (s t : Int) : Bool := isAny s && isAny t && bef s.toNat t.toNat
theorem befS_val (s t : Int) : spec_BeforeSet.f s t = some (befV s t) := by
  unfold spec_BeforeSet.f
  rw [specSet_val, specSet_val, isSetB_8, isSetB_8]
  simp only [Option.bind_some]
  unfold befV
  cases hs : isAny s with
  | false => simp
  | true =>
    cases ht : isAny t with
    | false => simp
    | true =>
      obtain ⟨a, ha, rfl⟩ := isAny_nat hs
      obtain ⟨b, hb, rfl⟩ := isAny_nat ht
      rw [if_pos rfl, if_pos rfl]
      simp only [Int.toNat_natCast, Bool.true_and]
      by_cases h : (a : Int) = (b : Int)
      · rw [if_pos h]
        obtain rfl : a = b := by omega
        rw [bef_irrefl]
      · rw [if_neg h, xor_nat (by omega) (by omega)]
        have hx : a ^^^ b < 256 := Nat.xor_lt_two_pow (n := 8) ha hb
        have e := low_int ⟨a ^^^ b, hx⟩
        simp only at e
        rw [e, and_nat (by omega) (by have : low (a ^^^ b) ≤ a ^^^ b := Nat.and_le_left; omega), ← low_bef ha hb]
        refine congrArg some ?_
        rw [Bool.eq_iff_iff, bne_iff_ne, bne_iff_ne]
        omega
theorem befI_val (s t : Int) : Ev (fun k => impl_BeforeSet.f k s t) (befV s t) := by
  unfold impl_BeforeSet.f
  have hF : Ev (fun k => impl_BeforeSet.j0 k s t true) false := Ev.step (f := fun k => some false) (fun k => by simp [impl_BeforeSet.j0]) (Ev.now false)
  rw [any_val, any_val]
  simp only [Option.bind_some]
  unfold befV
  cases hs : isAny s with
  | false => exact Ev.congr (fun k => by rw [if_neg (by decide)]) hF
  | true =>
    cases ht : isAny t with
    | false => exact Ev.congr (fun k => by rw [if_pos rfl, if_neg (by decide)]) hF
    | true =>
      obtain ⟨a, ha, rfl⟩ := isAny_nat hs
      obtain ⟨b, hb, rfl⟩ := isAny_nat ht
      refine Ev.congr (fun k => by rw [if_pos rfl, if_pos rfl]) ?_
      simp only [Int.toNat_natCast, Bool.true_and]
      by_cases h : (a : Int) = (b : Int)
      · obtain rfl : a = b := by omega
        rw [bef_irrefl, show ((a : Int) == (a : Int)) = true by simp]
        exact hF
      · rw [show ((a : Int) == (b : Int)) = false by simp; omega]
        have hx : a ^^^ b < 256 := Nat.xor_lt_two_pow (n := 8) ha hb
        have hne : a ^^^ b ≠ 0 := fun e => h (congrArg (fun (n : Nat) => (n : Int)) (xor_zero_eq e))
        obtain ⟨h7, hl⟩ := ctz_low ⟨a ^^^ b, hx⟩ hne
        simp only at h7 hl
        have ez : bits_TrailingZeros.f (IntKind.u64.wrap (Go.bits .xor .i64 (a : Int) (b : Int))) = some ((Lib.ctz 64 (a ^^^ b) : Nat) : Int) := by
          unfold bits_TrailingZeros.f bits_TrailingZeros64.f
          rw [xor_nat (by omega) (by omega), show IntKind.u64.wrap ((a ^^^ b : Nat) : Int) = ((a ^^^ b : Nat) : Int) by rw [IntKind.wrap_u64]; omega, if_pos (by omega), Int.toNat_natCast]
          rfl
        have hb2 := bit_low ⟨b, hb⟩ ⟨Lib.ctz 64 (a ^^^ b), by omega⟩
        simp only at hb2
        refine Ev.step (f := fun k => some (bef a b)) (fun k => ?_) (Ev.now _)
        simp only [impl_BeforeSet.j0]
        rw [if_neg (by decide), ez]
        simp only [Option.bind_some]
        rw [hasI_val]
        unfold hasV
        rw [ht]
        simp only [Int.toNat_natCast, Bool.true_and, Option.bind_some]
        rw [hb2, hl, low_bef ha hb, decide_eq_true (by omega), Bool.true_and]
end Go.Proofs.YtbflblmkdnhboaaGreatDoor.Pu
namespace Go.Proofs.YtbflblmkdnhboaaGreatDoor.Pu
/-- the pseudo-closed sets below k -/
def pl (c : Nat → Nat) : Nat → List Nat
  | 0 => []
  | k + 1 => if (decide (c k ≠ k) && (pl c k).all fun p => !sub p k || sub (c p) k) = true then pl c k ++ [k] else pl c k
def isP (c : Nat → Nat) (s : Nat) : Bool := decide (c s ≠ s) && (pl c s).all fun p => !sub p s || sub (c p) s
theorem pl_succ (c : Nat → Nat) (k : Nat) : pl c (k + 1) = if isP c k = true then pl c k ++ [k] else pl c k := rfl
theorem mem_pl {c : Nat → Nat} : ∀ {k p : Nat}, p ∈ pl c k ↔ p < k ∧ isP c p = true
  | 0, p => by simp [pl]
  | k + 1, p => by
    rw [pl_succ]
    by_cases h : isP c k = true
    · rw [if_pos h, List.mem_append, mem_pl, List.mem_singleton]
      constructor
      · rintro (⟨h1, h2⟩ | rfl)
        · exact ⟨by omega, h2⟩
        · exact ⟨by omega, h⟩
      · rintro ⟨h1, h2⟩
        by_cases e : p = k
        · exact Or.inr e
        · exact Or.inl ⟨by omega, h2⟩
    · rw [if_neg h, mem_pl]
      constructor
      · rintro ⟨h1, h2⟩; exact ⟨by omega, h2⟩
      · rintro ⟨h1, h2⟩
        refine ⟨?_, h2⟩
        by_cases e : p = k
        · subst e; exact absurd h2 h
        · omega
theorem isP_iff {c : Nat → Nat} {s : Nat} : isP c s = true ↔ c s ≠ s ∧ ∀ p, isP c p = true → sub p s = true → p ≠ s → sub (c p) s = true := by
  unfold isP
  rw [Bool.and_eq_true, decide_eq_true_iff, List.all_eq_true]
  refine and_congr_right fun _ => ⟨fun h p hp hs hne => ?_, fun h p hp => ?_⟩
  · have hlt : p < s := by have := sub_le hs; omega
    have := h p (mem_pl.2 ⟨hlt, hp⟩)
    rw [hs] at this
    simpa using this
  · obtain ⟨hlt, hP⟩ := mem_pl.1 hp
    cases hs : sub p s with
    | false => rfl
    | true => rw [h p hP hs (by omega)]; rfl
variable {n : Nat} {c : Nat → Nat}
theorem nodup_le : ∀ (m : Nat) (l : List Nat), l.Nodup → (∀ x ∈ l, x < m) → l.length ≤ m := by
  intro m
  induction m with
  | zero =>
    intro l _ h
    cases l with
    | nil => exact Nat.le_refl _
    | cons x l => exact absurd (h x List.mem_cons_self) (by omega)
  | succ m ih =>
    intro l hn h
    have h1 := ih (l.erase m) (hn.erase m) fun x hx => by
      have h2 := (List.Nodup.mem_erase_iff hn).1 hx
      have := h x h2.2
      omega
    by_cases hm : m ∈ l
    · have := List.length_erase_of_mem hm
      have := List.length_pos_of_mem hm
      omega
    · rw [List.erase_of_not_mem hm] at h1
      omega
end Go.Proofs.YtbflblmkdnhboaaGreatDoor.Pu
namespace Go.Proofs.YtbflblmkdnhboaaGreatDoor.Pu
open Go.RowKit Go.Proofs.YtbflblmkdnhboaaGreatDoorW.PrintWords Go.Proofs.YtbflblmkdnhboaaGreatDoorW.PrintLast Go.Proofs.YtbflblmkdnhboaaGreatDoorW.PrintMore Go.Proofs.YtbflblmkdnhboaaGreatDoor.Pr
theorem ev_fold {α β : Type} {g : Nat → α → Int → Option β} (f : Nat → α → α) (inv : Nat → α → Prop) {res : β} {N : Nat}
    (hs : ∀ i a, i < N → inv i a → Ev (fun k => g k (f i a) ((i + 1 : Nat) : Int)) res → Ev (fun k => g k a (i : Int)) res)
    (hp : ∀ i a, i < N → inv i a → inv (i + 1) (f i a)) :
    ∀ (d i : Nat) (a : α), i + d = N → inv i a → (∀ b, b = foldIdx f i N a → inv N b → Ev (fun k => g k b (N : Int)) res) → Ev (fun k => g k a (i : Int)) res := by
  intro d
  induction d with
  | zero =>
    intro i a h hi he
    obtain rfl : i = N := by omega
    exact he a (foldIdx_end f (Nat.le_refl _) a).symm hi
  | succ d ih =>
    intro i a h hi he
    refine hs i a (by omega) hi (ih (i + 1) (f i a) (by omega) (hp i a (by omega) hi) fun b hb hb' => he b ?_ hb')
    rw [hb, ← foldIdx_step f (by omega)]
theorem fold_congr {α : Type} {f g : Nat → α → α} {N : Nat} : ∀ (d i : Nat) (a : α), i + d = N → (∀ j a, i ≤ j → j < N → f j a = g j a) → foldIdx f i N a = foldIdx g i N a := by
  intro d
  induction d with
  | zero => intro i a h _; rw [foldIdx_end f (by omega), foldIdx_end g (by omega)]
  | succ d ih =>
    intro i a h hc
    rw [foldIdx_step f (by omega), foldIdx_step g (by omega), hc i a (Nat.le_refl _) (by omega)]
    exact ih (i + 1) _ (by omega) fun j a hj => hc j a (by omega)
def bitStep (b : Nat → Bool) (i a : Nat) : Nat := if b i = true then a ||| 2 ^ i else a
theorem fold_bits (b : Nat → Bool) : ∀ n, foldIdx (bitStep b) 0 n 0 = ofBits b n
  | 0 => foldIdx_end _ (Nat.le_refl _) _
  | n + 1 => by
    rw [foldIdx_last _ (Nat.zero_le _), fold_bits b n, ofBits, bitStep]
    cases b n <;> simp
theorem bitStep_lt {b : Nat → Bool} {i a n : Nat} (hi : i < n) (ha : a < 2 ^ n) : bitStep b i a < 2 ^ n := by
  unfold bitStep
  split
  · exact Nat.or_lt_two_pow ha (Nat.pow_lt_pow_right (by decide) hi)
  · exact ha
theorem shl_one (e : Nat) (he : e ≤ 8) : shl .i64 1 (e : Int) = ((2 ^ e : Nat) : Int) := by
  have h : e = 0 ∨ e = 1 ∨ e = 2 ∨ e = 3 ∨ e = 4 ∨ e = 5 ∨ e = 6 ∨ e = 7 ∨ e = 8 := by omega
  rcases h with rfl | rfl | rfl | rfl | rfl | rfl | rfl | rfl | rfl <;> decide +kernel
theorem shl_zero (e : Nat) (he : e ≤ 8) : shl .i64 0 (e : Int) = 0 := by
  have h : e = 0 ∨ e = 1 ∨ e = 2 ∨ e = 3 ∨ e = 4 ∨ e = 5 ∨ e = 6 ∨ e = 7 ∨ e = 8 := by omega
  rcases h with rfl | rfl | rfl | rfl | rfl | rfl | rfl | rfl | rfl <;> decide +kernel
theorem pow_256 {n : Nat} (h : n ≤ 8) : 2 ^ n ≤ 256 := show 2 ^ n ≤ 2 ^ 8 from Nat.pow_le_pow_right (by decide) h
theorem lt_256 {n a : Nat} (h : n ≤ 8) (ha : a < 2 ^ n) : a < 256 := Nat.lt_of_lt_of_le ha (pow_256 h)
theorem or_bit {a e : Nat} (ha : a < 256) (he : e ≤ 7) : Go.bits .or .i64 (a : Int) (shl .i64 1 (e : Int)) = ((a ||| 2 ^ e : Nat) : Int) := by
  have h8 : 2 ^ e ≤ 2 ^ 7 := Nat.pow_le_pow_right (by decide) he
  rw [shl_one e (by omega)]
  exact or_nat (by omega) (by omega)
/-- all elements of s are in t, as Go's & tells it -/
theorem and_is {a b : Nat} (ha : a < 256) (hb : b < 256) : (Go.bits .and .i64 (b : Int) (a : Int) = (a : Int)) ↔ sub a b = true := by
  rw [and_nat (by omega) (by omega), Nat.and_comm, Int.natCast_inj]
  unfold sub
  simp
theorem and_is' {a b : Nat} (ha : a < 256) (hb : b < 256) : (Go.bits .and .i64 (a : Int) (b : Int) = (a : Int)) ↔ sub a b = true := by
  rw [and_nat (by omega) (by omega), Int.natCast_inj]
  unfold sub
  simp
theorem andNot_is {a b : Nat} (ha : a < 256) (hb : b < 256) : (Go.bits .andNot .i64 (a : Int) (b : Int) = 0) ↔ sub a b = true := by
  rw [andNot_nat (by omega) (by omega), ← diff_eq_zero]
  omega
def cast (R : List Nat) : List Int := R.map fun (x : Nat) => (x : Int)
theorem cast_length (R : List Nat) : (cast R).length = R.length := List.length_map ..
theorem rd_cast (R : List Nat) (i : Nat) : rd (cast R) (i : Int) = ((R.getD i 0 : Nat) : Int) := by
  rw [rd_nat]
  unfold cast
  rw [List.getD_eq_getElem?_getD, List.getD_eq_getElem?_getD, List.getElem?_map]
  cases R[i]? <;> rfl
theorem cast_of {l : List Int} (h : ∀ x ∈ l, 0 ≤ x) : l = cast (l.map Int.toNat) := by
  unfold cast
  rw [List.map_map]
  conv => lhs; rw [← List.map_id l]
  refine List.map_congr_left fun x hx => ?_
  have := h x hx
  simp [Int.toNat_of_nonneg this]
end Go.Proofs.YtbflblmkdnhboaaGreatDoor.Pu
