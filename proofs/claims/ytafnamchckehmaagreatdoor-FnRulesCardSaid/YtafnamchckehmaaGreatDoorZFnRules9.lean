/- Functions of the program as plain functions, proofs that their calls answer so, and plain laws: what the law needs. No condition beyond what each statement says. -/
import Derived.Shelf.Strings.OnBuilder
import Derived.Shelf.Strings.Split
import Derived.Shelf.Strings.SplitShaped
import Derived.Shelf.Slices.CompactI
import Derived.Shelf.SlSortCmp.Insertion1
import Derived.Shelf.SlSortCmp.Whole1
import Derived.Shelf.SlSortCmp.NoneTotal
import Derived.Test.YtafnamchckehmaaGreatDoorZFnRules6
import Derived.Deep.Slices
import Derived.WideShapes
import Derived.ProofKit
import Derived.SizedLaws
namespace Go.Proofs.YtafnamchckehmaaGreatDoor.Pu
def sub (a b : Nat) : Bool := a &&& b == a
theorem sub_iff {a b : Nat} : sub a b = true ↔ ∀ i, a.testBit i = true → b.testBit i = true := by
  unfold sub
  rw [beq_iff_eq]
  constructor
  · intro h i hi
    rw [← h, Nat.testBit_and] at hi
    exact (Bool.and_eq_true_iff.1 hi).2
  · intro h
    apply Nat.eq_of_testBit_eq
    intro i
    rw [Nat.testBit_and]
    cases ha : a.testBit i with
    | false => rfl
    | true => rw [h i ha]; rfl
theorem sub_refl (a : Nat) : sub a a = true := by simp [sub]
theorem sub_trans {a b c : Nat} (h : sub a b = true) (k : sub b c = true) : sub a c = true :=
  sub_iff.2 fun i hi => sub_iff.1 k i (sub_iff.1 h i hi)
theorem sub_antisymm {a b : Nat} (h : sub a b = true) (k : sub b a = true) : a = b := by
  apply Nat.eq_of_testBit_eq
  intro i
  rw [Bool.eq_iff_iff]
  exact ⟨sub_iff.1 h i, sub_iff.1 k i⟩
theorem sub_or_left (a b : Nat) : sub a (a ||| b) = true := sub_iff.2 fun i hi => by rw [Nat.testBit_or, hi]; rfl
theorem sub_or_right (a b : Nat) : sub b (a ||| b) = true := sub_iff.2 fun i hi => by rw [Nat.testBit_or, hi]; simp
theorem or_sub {a b c : Nat} (h : sub a c = true) (k : sub b c = true) : sub (a ||| b) c = true := sub_iff.2 fun i hi => by
  rw [Nat.testBit_or, Bool.or_eq_true] at hi
  rcases hi with hi | hi
  · exact sub_iff.1 h i hi
  · exact sub_iff.1 k i hi
theorem sub_le {a b : Nat} (h : sub a b = true) : a ≤ b := by
  have : a &&& b = a := by simpa [sub] using h
  rw [← this]; exact Nat.and_le_right
def diff (a b : Nat) : Nat := a ^^^ (a &&& b)
theorem testBit_diff (a b i : Nat) : (diff a b).testBit i = (a.testBit i && !b.testBit i) := by
  unfold diff
  rw [Nat.testBit_xor, Nat.testBit_and]
  cases a.testBit i <;> cases b.testBit i <;> rfl
theorem diff_eq_zero {a b : Nat} : diff a b = 0 ↔ sub a b = true := by
  constructor
  · intro h
    refine sub_iff.2 fun i hi => ?_
    have := testBit_diff a b i
    rw [h, hi] at this
    simpa using this
  · intro h
    apply Nat.eq_of_testBit_eq
    intro i
    rw [testBit_diff, Nat.zero_testBit]
    cases ha : a.testBit i with
    | false => rfl
    | true => rw [sub_iff.1 h i ha]; rfl
abbrev Rules := List (Nat × Nat)
def step (R : Rules) (s : Nat) : Nat := R.foldl (fun o r => if sub r.1 s then o ||| r.2 else o) s
def resp (R : Rules) (s : Nat) : Prop := ∀ r ∈ R, sub r.1 s = true → sub r.2 s = true
theorem fold_spec (R : Rules) (s : Nat) : ∀ o, sub o (R.foldl (fun o r => if sub r.1 s then o ||| r.2 else o) o) = true ∧
    (∀ r ∈ R, sub r.1 s = true → sub r.2 (R.foldl (fun o r => if sub r.1 s then o ||| r.2 else o) o) = true) ∧
    (∀ t, sub o t = true → (∀ r ∈ R, sub r.1 s = true → sub r.2 t = true) → sub (R.foldl (fun o r => if sub r.1 s then o ||| r.2 else o) o) t = true) := by
  induction R with
  | nil => intro o; exact ⟨sub_refl _, by simp, fun t h _ => h⟩
  | cons r R ih =>
    intro o
    rw [List.foldl_cons]
    obtain ⟨h1, h2, h3⟩ := ih (if sub r.1 s then o ||| r.2 else o)
    refine ⟨?_, ?_, ?_⟩
    · refine sub_trans ?_ h1
      split
      · exact sub_or_left _ _
      · exact sub_refl _
    · intro q hq hs
      rcases List.mem_cons.1 hq with rfl | hq
      · refine sub_trans ?_ h1
        rw [if_pos hs]; exact sub_or_right _ _
      · exact h2 q hq hs
    · intro t ht hr
      refine h3 t ?_ (fun q hq => hr q (List.mem_cons_of_mem _ hq))
      split
      · rename_i h; exact or_sub ht (hr r List.mem_cons_self h)
      · exact ht
theorem sub_step (R : Rules) (s : Nat) : sub s (step R s) = true := (fold_spec R s s).1
theorem step_le_of {R : Rules} {s t : Nat} (h : sub s t = true) (hr : resp R t) : sub (step R s) t = true :=
  (fold_spec R s s).2.2 t h fun r hr' hs => hr r hr' (sub_trans hs h)
theorem step_fix {R : Rules} {s : Nat} : step R s = s ↔ resp R s := by
  constructor
  · intro h r hr hs
    have := (fold_spec R s s).2.1 r hr hs
    rw [show R.foldl (fun o r => if sub r.1 s then o ||| r.2 else o) s = step R s from rfl, h] at this
    exact this
  · intro h
    exact sub_antisymm (step_le_of (sub_refl s) h) (sub_step R s)
def iter (R : Rules) : Nat → Nat → Nat
  | 0, s => s
  | k + 1, s => iter R k (step R s)
def clo (R : Rules) (s : Nat) : Nat := iter R 256 s
def small (R : Rules) : Prop := ∀ r ∈ R, r.1 < 256 ∧ r.2 < 256
theorem step_lt {R : Rules} {s : Nat} (hR : small R) (hs : s < 256) : step R s < 256 := by
  have h := (fold_spec R s s).2.2 255 (sub_iff.2 fun i hi => ?_) (fun r hr _ => sub_iff.2 fun i hi => ?_)
  · have := sub_le h; unfold step; omega
  all_goals
    have : i < 8 := by
      rcases Nat.lt_or_ge i 8 with h | h
      · exact h
      · exfalso
        rw [Nat.testBit_lt_two_pow] at hi
        · cases hi
        · have h8 : 2 ^ 8 ≤ 2 ^ i := Nat.pow_le_pow_right (by decide) h
          first | omega | (have := (hR r hr).2; omega)
    rw [show (255 : Nat) = 2 ^ 8 - 1 from rfl, Nat.testBit_two_pow_sub_one]
    simpa using this
theorem iter_spec {R : Rules} (hR : small R) : ∀ k s, s < 256 → 256 ≤ s + k → (iter R k s < 256 ∧ sub s (iter R k s) = true ∧ resp R (iter R k s) ∧ ∀ t, sub s t = true → resp R t → sub (iter R k s) t = true) := by
  intro k
  induction k with
  | zero => intro s hs h; omega
  | succ k ih =>
    intro s hs h
    rw [iter]
    by_cases e : step R s = s
    · rw [e]
      have : ∀ k, iter R k s = s := by
        intro k
        induction k with
        | zero => rfl
        | succ k ih => rw [iter, e, ih]
      rw [this]
      exact ⟨hs, sub_refl s, step_fix.1 e, fun t ht _ => ht⟩
    · have hlt : s < step R s := by have := sub_le (sub_step R s); omega
      obtain ⟨h1, h2, h3, h4⟩ := ih (step R s) (step_lt hR hs) (by omega)
      exact ⟨h1, sub_trans (sub_step R s) h2, h3, fun t ht hr => h4 t (step_le_of ht hr) hr⟩
theorem clo_spec {R : Rules} (hR : small R) {s : Nat} (hs : s < 256) : clo R s < 256 ∧ sub s (clo R s) = true ∧ resp R (clo R s) ∧ ∀ t, sub s t = true → resp R t → sub (clo R s) t = true :=
  iter_spec hR 256 s hs (by omega)
theorem clo_unique {R : Rules} (hR : small R) {s r : Nat} (hs : s < 256) (h1 : sub s r = true) (h2 : resp R r) (h3 : ∀ t, sub s t = true → resp R t → sub r t = true) : r = clo R s :=
  sub_antisymm (h3 _ (clo_spec hR hs).2.1 (clo_spec hR hs).2.2.1) ((clo_spec hR hs).2.2.2 r h1 h2)
def ofBits (f : Nat → Bool) : Nat → Nat
  | 0 => 0
  | k + 1 => ofBits f k ||| (if f k then 2 ^ k else 0)
theorem ofBits_lt (f : Nat → Bool) : ∀ k, ofBits f k < 2 ^ k
  | 0 => by simp [ofBits]
  | k + 1 => by
    have h := ofBits_lt f k
    have h2 : 2 ^ k < 2 ^ (k + 1) := Nat.pow_lt_pow_right (by decide) (by omega)
    unfold ofBits
    refine Nat.or_lt_two_pow (Nat.lt_trans h h2) ?_
    split
    · exact h2
    · exact Nat.two_pow_pos _
theorem testBit_ofBits (f : Nat → Bool) (i : Nat) : ∀ k, (ofBits f k).testBit i = (decide (i < k) && f i)
  | 0 => by simp [ofBits]
  | k + 1 => by
    unfold ofBits
    rw [Nat.testBit_or, testBit_ofBits f i k]
    by_cases h : i < k
    · have hk : ¬ (k = i) := by omega
      have : (if f k = true then 2 ^ k else 0 : Nat).testBit i = false := by
        split
        · rw [Nat.testBit_two_pow]; simp [hk]
        · simp
      simp [this, h, show i < k + 1 from by omega]
    · by_cases e : i = k
      · subst e
        cases hf : f i <;> simp
      · have : (if f k = true then 2 ^ k else 0 : Nat).testBit i = false := by
          split
          · rw [Nat.testBit_two_pow]; simp [show ¬ k = i from fun h => e h.symm]
          · simp
        simp [this, h, show ¬ i < k + 1 from by omega]
theorem lt_two_pow_iff {a k : Nat} : a < 2 ^ k ↔ ∀ i, k ≤ i → a.testBit i = false := by
  constructor
  · intro h i hi
    exact Nat.testBit_lt_two_pow (Nat.lt_of_lt_of_le h (Nat.pow_le_pow_right (by decide) hi))
  · intro h
    exact Nat.lt_pow_two_of_testBit a h
def foldIdx {σ : Type} (f : Nat → σ → σ) (i n : Nat) (s : σ) : σ := (List.range' i (n - i)).foldl (fun s j => f j s) s
theorem foldIdx_end {σ : Type} (f : Nat → σ → σ) {i n : Nat} (h : n ≤ i) (s : σ) : foldIdx f i n s = s := by
  unfold foldIdx; rw [Nat.sub_eq_zero_of_le h]; rfl
theorem foldIdx_step {σ : Type} (f : Nat → σ → σ) {i n : Nat} (h : i < n) (s : σ) : foldIdx f i n s = foldIdx f (i + 1) n (f i s) := by
  unfold foldIdx
  obtain ⟨d, rfl⟩ : ∃ d, n = i + 1 + d := ⟨n - (i + 1), by omega⟩
  rw [show i + 1 + d - i = d + 1 from by omega, show i + 1 + d - (i + 1) = d from by omega, List.range'_succ, List.foldl_cons]
theorem foldIdx_last {σ : Type} (f : Nat → σ → σ) {i n : Nat} (h : i ≤ n) (s : σ) : foldIdx f i (n + 1) s = f n (foldIdx f i n s) := by
  unfold foldIdx
  rw [show n + 1 - i = (n - i) + 1 from by omega, List.range'_concat, List.foldl_append]
  simp only [List.foldl_cons, List.foldl_nil]
  congr 1
  omega
theorem clo_of_between {R : Rules} (hR : small R) {s u : Nat} (hs : s < 256) (hu : u < 256) (h1 : sub s u = true) (h2 : ∀ t, sub s t = true → resp R t → sub u t = true) : clo R u = clo R s := by
  obtain ⟨_, b, c, d⟩ := clo_spec hR hu
  exact clo_unique hR hs (sub_trans h1 b) c fun t ht hr => d t (h2 t ht hr) hr
theorem clo_fix {R : Rules} (hR : small R) {s : Nat} (hs : s < 256) : clo R s = s ↔ resp R s := by
  constructor
  · intro h; have := (clo_spec hR hs).2.2.1; rwa [h] at this
  · intro h; exact (clo_unique hR hs (sub_refl s) h (fun t ht _ => ht)).symm
theorem clo_step {R : Rules} (hR : small R) {s : Nat} (hs : s < 256) : clo R (step R s) = clo R s :=
  clo_of_between hR hs (step_lt hR hs) (sub_step R s) (fun _ ht hr => step_le_of ht hr)
def sweep (R : Rules) (p : Nat × Bool) : Nat × Bool := R.foldl (fun p r => if sub r.1 p.1 && !sub r.2 p.1 then (p.1 ||| r.2, true) else p) p
theorem sweep_spec (R : Rules) : ∀ (p : Nat × Bool), sub p.1 (sweep R p).1 = true ∧ ((∀ r ∈ R, r.2 < 256) → p.1 < 256 → (sweep R p).1 < 256) ∧
    (∀ t, sub p.1 t = true → resp R t → sub (sweep R p).1 t = true) ∧
    ((sweep R p).2 = false → p.2 = false ∧ (sweep R p).1 = p.1 ∧ resp R p.1) ∧
    (p.2 = false → (sweep R p).2 = true → p.1 < (sweep R p).1) := by
  induction R with
  | nil => intro p; exact ⟨sub_refl _, fun _ h => h, fun t h _ => h, fun h => ⟨h, rfl, fun r hr => by simp at hr⟩, fun h h' => by rw [show sweep [] p = p from rfl, h] at h'; cases h'⟩
  | cons r R ih =>
    intro p
    rw [show sweep (r :: R) p = sweep R (if sub r.1 p.1 && !sub r.2 p.1 then (p.1 ||| r.2, true) else p) from rfl]
    by_cases hc : (sub r.1 p.1 && !sub r.2 p.1) = true
    · rw [if_pos hc]
      rw [Bool.and_eq_true] at hc
      obtain ⟨hc1, hc2⟩ := hc
      obtain ⟨a, b, c, d, e⟩ := ih (p.1 ||| r.2, true)
      have hlt : p.1 < p.1 ||| r.2 := by
        have h1 := sub_le (sub_or_left p.1 r.2)
        rcases Nat.lt_or_ge p.1 (p.1 ||| r.2) with h | h
        · exact h
        · have he : p.1 ||| r.2 = p.1 := Nat.le_antisymm h h1
          have := sub_or_right p.1 r.2
          rw [he] at this
          rw [this] at hc2; cases hc2
      refine ⟨sub_trans (sub_or_left _ _) a, fun h hp => b (fun q hq => h q (List.mem_cons_of_mem _ hq)) (Nat.or_lt_two_pow (n := 8) hp (h r List.mem_cons_self)), ?_, ?_, ?_⟩
      · intro t ht hr
        exact c t (or_sub ht (hr r List.mem_cons_self (sub_trans hc1 ht))) (fun q hq => hr q (List.mem_cons_of_mem _ hq))
      · intro h
        have := (d h).1
        cases this
      · intro _ _
        exact Nat.lt_of_lt_of_le hlt (sub_le a)
    · rw [if_neg hc]
      obtain ⟨a, b, c, d, e⟩ := ih p
      refine ⟨a, fun h hp => b (fun q hq => h q (List.mem_cons_of_mem _ hq)) hp, fun t ht hr => c t ht (fun q hq => hr q (List.mem_cons_of_mem _ hq)), ?_, e⟩
      intro h
      obtain ⟨d1, d2, d3⟩ := d h
      refine ⟨d1, d2, fun q hq hs => ?_⟩
      rcases List.mem_cons.1 hq with rfl | hq
      · rw [hs, Bool.true_and] at hc
        simpa using hc
      · exact d3 q hq hs
open Go.RowKit Go.Proofs.YtafnamchckehmaaGreatDoorW.PrintWords
theorem wraps_i64 (n : Int) (h₀ : 0 ≤ n) (h₁ : n < 2 ^ 63) : IntKind.i64.wrap n = n := by rw [IntKind.wrap_i64]; omega
theorem and_nat {a b : Nat} (ha : a < 2 ^ 63) (hb : b < 2 ^ 63) : Go.bits .and .i64 (a : Int) (b : Int) = ((a &&& b : Nat) : Int) := (bits_nat .i64 63 (by decide) wraps_i64 a b ha hb).1
theorem or_nat {a b : Nat} (ha : a < 2 ^ 63) (hb : b < 2 ^ 63) : Go.bits .or .i64 (a : Int) (b : Int) = ((a ||| b : Nat) : Int) := (bits_nat .i64 63 (by decide) wraps_i64 a b ha hb).2
theorem diff_le (a b : Nat) : diff a b ≤ a := by
  refine sub_le (sub_iff.2 fun i hi => ?_)
  rw [testBit_diff] at hi
  exact (Bool.and_eq_true_iff.1 hi).1
theorem bits_andNot_nat (k : IntKind) (j : Nat) (hj : j ≤ k.bits) (hk : ∀ n : Int, 0 ≤ n → n < 2 ^ j → k.wrap n = n) (a b : Nat) (ha : a < 2 ^ j) (hb : b < 2 ^ j) : bits .andNot k a b = ((diff a b : Nat) : Int) := by
  have hp : 2 ^ j ≤ 2 ^ k.bits := Nat.pow_le_pow_right (by decide) hj
  have ha' : a % 2 ^ k.bits = a := Nat.mod_eq_of_lt (Nat.lt_of_lt_of_le ha hp)
  have hb' : b % 2 ^ k.bits = b := Nat.mod_eq_of_lt (Nat.lt_of_lt_of_le hb hp)
  have cast : ∀ n : Nat, n < 2 ^ j → ((n : Nat) : Int) < 2 ^ j := fun n h => by exact_mod_cast h
  have e : (BitVec.ofNat k.bits a &&& ~~~(BitVec.ofNat k.bits b)).toNat = diff a b := by
    apply Nat.eq_of_testBit_eq
    intro i
    rw [testBit_diff, BitVec.toNat_and, Nat.testBit_and, BitVec.toNat_ofNat, ha']
    by_cases hi : i < k.bits
    · rw [show ((~~~(BitVec.ofNat k.bits b)).toNat).testBit i = (~~~(BitVec.ofNat k.bits b)).getLsbD i from rfl, BitVec.getLsbD_not]
      simp [hi, BitVec.getLsbD, hb']
    · rw [Nat.testBit_lt_two_pow (x := a) (i := i) (Nat.lt_of_lt_of_le ha (Nat.pow_le_pow_right (by decide) (by omega)))]
      simp
  simp only [bits, BitVec.ofInt_natCast, e]
  exact hk _ (Int.natCast_nonneg _) (cast _ (Nat.lt_of_le_of_lt (diff_le a b) ha))
theorem andNot_nat {a b : Nat} (ha : a < 2 ^ 63) (hb : b < 2 ^ 63) : Go.bits .andNot .i64 (a : Int) (b : Int) = ((diff a b : Nat) : Int) := bits_andNot_nat .i64 63 (by decide) wraps_i64 a b ha hb
def isSetB (n s : Int) : Bool := decide (0 ≤ n ∧ n ≤ 8 ∧ 0 ≤ s ∧ s < 2 ^ n.toNat)
def isAny (s : Int) : Bool := decide (0 ≤ s ∧ s < 256)
theorem isSetB_8 (s : Int) : isSetB 8 s = isAny s := by
  unfold isSetB isAny
  rw [show (8 : Int).toNat = 8 from rfl]
  have : (2 : Int) ^ 8 = 256 := by decide
  rw [this]
  simp
theorem isAny_nat {s : Int} (h : isAny s = true) : ∃ a : Nat, a < 256 ∧ s = (a : Int) := by
  unfold isAny at h
  have := of_decide_eq_true h
  exact ⟨s.toNat, by omega, by omega⟩
theorem isSetB_nat {n s : Int} (h : isSetB n s = true) : ∃ m a : Nat, m ≤ 8 ∧ n = (m : Int) ∧ a < 2 ^ m ∧ s = (a : Int) := by
  unfold isSetB at h
  obtain ⟨h1, h2, h3, h4⟩ := of_decide_eq_true h
  refine ⟨n.toNat, s.toNat, by omega, by omega, ?_, by omega⟩
  have : ((s.toNat : Nat) : Int) < ((2 ^ n.toNat : Nat) : Int) := by rw [Int.toNat_of_nonneg h3]; simpa using h4
  exact_mod_cast this
theorem isSetB_mk {m a : Nat} (hm : m ≤ 8) (ha : a < 2 ^ m) : isSetB (m : Int) (a : Int) = true := by
  unfold isSetB
  have : ((a : Nat) : Int) < ((2 ^ m : Nat) : Int) := by exact_mod_cast ha
  rw [decide_eq_true_iff]
  refine ⟨by omega, by omega, by omega, ?_⟩
  simpa using this
theorem isSetB_any {n s : Int} (h : isSetB n s = true) : isAny s = true := by
  obtain ⟨m, a, hm, rfl, ha, rfl⟩ := isSetB_nat h
  have : a < 2 ^ 8 := Nat.lt_of_lt_of_le ha (Nat.pow_le_pow_right (by decide) hm)
  unfold isAny
  rw [decide_eq_true_iff]
  omega
theorem upper_val (n : Int) (h0 : 0 ≤ n) (h1 : n ≤ 8) : wrap64 ((shl .i64 1 n) - 1) = 2 ^ n.toNat - 1 := by
  have h : n = 0 ∨ n = 1 ∨ n = 2 ∨ n = 3 ∨ n = 4 ∨ n = 5 ∨ n = 6 ∨ n = 7 ∨ n = 8 := by omega
  rcases h with rfl | rfl | rfl | rfl | rfl | rfl | rfl | rfl | rfl <;> decide +kernel
theorem wrapU_val (n : Int) (h0 : 0 ≤ n) (h1 : n ≤ 8) : IntKind.u64.wrap n = n := by
  have h : n = 0 ∨ n = 1 ∨ n = 2 ∨ n = 3 ∨ n = 4 ∨ n = 5 ∨ n = 6 ∨ n = 7 ∨ n = 8 := by omega
  rcases h with rfl | rfl | rfl | rfl | rfl | rfl | rfl | rfl | rfl <;> decide +kernel
open Go.RowKit Go.Proofs.YtafnamchckehmaaGreatDoorW.PrintWords Go.Proofs.YtafnamchckehmaaGreatDoorW.PrintLast Go.Proofs.YtafnamchckehmaaGreatDoorW.PrintMore Go.Proofs.YtafnamchckehmaaGreatDoor.Pr
theorem wrap_succ {i n : Nat} (h : i < n) (hn : n ≤ 9223372036854775807) : wrap64 ((i : Int) + 1) = ((i + 1 : Nat) : Int) := by unfold wrap64; omega
theorem drop_nil {α : Type} {l : List α} {i : Nat} (h : l.drop i = []) : l.length ≤ i := by
  have := congrArg List.length h
  simp at this; omega
theorem drop_cons {α : Type} {l rest : List α} {i : Nat} {x d : α} (h : l.drop i = x :: rest) : i < l.length ∧ l.getD i d = x ∧ l.drop (i + 1) = rest := by
  have hi : i < l.length := by
    rcases Nat.lt_or_ge i l.length with h' | h'
    · exact h'
    · rw [List.drop_of_length_le h'] at h; cases h
  rw [List.drop_eq_getElem_cons hi] at h
  injection h with h1 h2
  exact ⟨hi, by rw [List.getD_eq_getElem?_getD, List.getElem?_eq_getElem hi]; exact h1, h2⟩
theorem rd_nat (l : List Int) (i : Nat) : rd l (i : Int) = l.getD i 0 := by unfold rd; rw [Int.toNat_natCast]
theorem l1In_val (a b c : Int) : spec_l1In.f a b c = some (decide (b ≤ a ∧ a ≤ c)) := by
  unfold spec_l1In.f
  by_cases h : b ≤ a
  · rw [if_pos h]; simp [h]
  · rw [if_neg h]; simp [h]
theorem within_val (a b c : Int) : impl_within.f a b c = some (decide (b ≤ a ∧ a ≤ c)) := by
  unfold impl_within.f
  by_cases h : b ≤ a
  · rw [if_pos h]; simp [h]
  · rw [if_neg h]; simp [h]
theorem setB_of {n s : Int} (h : 0 ≤ n ∧ n ≤ 8) : decide (0 ≤ s ∧ s ≤ 2 ^ n.toNat - 1) = isSetB n s := by
  unfold isSetB
  generalize (2 : Int) ^ n.toNat = q
  rw [decide_eq_decide]
  omega
theorem setB_not {n s : Int} (h : ¬ (0 ≤ n ∧ n ≤ 8)) : isSetB n s = false := by
  unfold isSetB
  rw [decide_eq_false_iff_not]
  omega
theorem specSet_val (n s : Int) : spec_IsSet.f n s = some (isSetB n s) := by
  unfold spec_IsSet.f
  rw [l1In_val, Option.bind_some]
  by_cases h : 0 ≤ n ∧ n ≤ 8
  · rw [if_pos (decide_eq_true h), wrapU_val n h.1 h.2, if_pos h.1, upper_val n h.1 h.2, l1In_val, Option.bind_some, setB_of h]
  · rw [if_neg (by simpa using h), setB_not h]
theorem set_val (n s : Int) : impl_IsSet.f n s = some (isSetB n s) := by
  unfold impl_IsSet.f
  rw [within_val, Option.bind_some]
  by_cases h : 0 ≤ n ∧ n ≤ 8
  · rw [if_pos (decide_eq_true h), if_pos h.1, upper_val n h.1 h.2, within_val, Option.bind_some, setB_of h]
  · rw [if_neg (by simpa using h), setB_not h]
theorem any_val (s : Int) : impl_isAnySet.f s = some (isAny s) := by
  unfold impl_isAnySet.f
  rw [set_val, Option.bind_some, isSetB_8]
theorem rule_val (n a b : Int) : spec_l9Rule.f n a b = some (isSetB n a && isSetB n b) := by
  unfold spec_l9Rule.f
  rw [specSet_val, Option.bind_some]
  cases isSetB n a with
  | false => rfl
  | true => rw [if_pos rfl, specSet_val, Option.bind_some]; rfl
abbrev IR := S48
theorem rdR (l : List IR) (i : Nat) : rd_T48 l (i : Int) = l.getD i z48 := by unfold rd_T48; rw [Int.toNat_natCast]
def anyR (r : IR) : Bool := isAny r.f0 && isAny r.f1
def toP (r : IR) : Nat × Nat := (r.f0.toNat, r.f1.toNat)
def toR (l : List IR) : Rules := l.map toP
end Go.Proofs.YtafnamchckehmaaGreatDoor.Pu
namespace Go.Proofs
open Go.Shelf
def Tryz.lays156_ren : Go.Shelf.Ren := ⟨fun | 156 => 235 | 165 => 263 | 166 => 264 | 169 => 265 | 240 => 279 | 241 => 280 | 276 => 297 | 277 => 298 | n => n, fun | 31 => 132 | 9 => 9 | 3 => 3 | 4 => 4 | 0 => 0 | 20 => 20 | 72 => 176 | 76 => 180 | 70 => 174 | 37 => 22 | 75 => 179 | 127 => 191 | 164 => 198 | 5 => 5 | 80 => 182 | n => n, fun | n => n⟩
theorem Tryz.lays156 : Go.Proofs.Lays.n156 Tryz.prog Tryz.lays156_ren := {
  mixed := by kernel_rfl
  f156 := Tryz.func235.trans (congrArg some (by kernel_rfl))
  f165 := Tryz.func263.trans (congrArg some (by kernel_rfl))
  f166 := Tryz.func264.trans (congrArg some (by kernel_rfl))
  f169 := Tryz.func265.trans (congrArg some (by kernel_rfl))
  f240 := Tryz.func279.trans (congrArg some (by kernel_rfl))
  f241 := Tryz.func280.trans (congrArg some (by kernel_rfl))
  f276 := Tryz.func297.trans (congrArg some (by kernel_rfl))
  f277 := Tryz.func298.trans (congrArg some (by kernel_rfl))
  t0 := Tryz.underlying0
  a0 := Tryz.isAgg0
  z0 := Tryz.sizeOf0
  v0 := Tryz.zeroValue0
  t3 := Tryz.underlying3
  a3 := Tryz.isAgg3
  z3 := Tryz.sizeOf3
  v3 := Tryz.zeroValue3
  t4 := Tryz.underlying4
  a4 := Tryz.isAgg4
  z4 := Tryz.sizeOf4
  v4 := Tryz.zeroValue4
  t9 := Tryz.underlying9
  a9 := Tryz.isAgg9
  z9 := Tryz.sizeOf9
  v9 := Tryz.zeroValue9
  t20 := Tryz.underlying20
  a20 := Tryz.isAgg20
  z20 := Tryz.sizeOf20
  v20 := Tryz.zeroValue20
  t31 := Tryz.underlying132
  a31 := Tryz.isAgg132
  z31 := Tryz.sizeOf132
  v31 := Tryz.zeroValue132
  t37 := Tryz.underlying22
  a37 := Tryz.isAgg22
  z37 := Tryz.sizeOf22
  v37 := Tryz.zeroValue22
  t70 := Tryz.underlying174
  a70 := Tryz.isAgg174
  z70 := Tryz.sizeOf174
  v70 := Tryz.zeroValue174
  t72 := Tryz.underlying176
  a72 := Tryz.isAgg176
  z72 := Tryz.sizeOf176
  v72 := Tryz.zeroValue176
  t75 := Tryz.underlying179
  a75 := Tryz.isAgg179
  z75 := Tryz.sizeOf179
  v75 := Tryz.zeroValue179
  t76 := Tryz.underlying180
  a76 := Tryz.isAgg180
  z76 := Tryz.sizeOf180
  v76 := Tryz.zeroValue180
  t127 := Tryz.underlying191
  a127 := Tryz.isAgg191
  z127 := Tryz.sizeOf191
  v127 := Tryz.zeroValue191
  t164 := Tryz.underlying198
  a164 := Tryz.isAgg198
  z164 := Tryz.sizeOf198
  v164 := Tryz.zeroValue198 }
theorem Tryz.Builder_Extra_156 : Builder.Extra Tryz.prog Tryz.lays156_ren := {
  sizeBuilder := by kernel_rfl
  liesBuilder := by kernel_rfl
  t5 := Tryz.underlying5
  a5 := Tryz.isAgg5
  z5 := Tryz.sizeOf5
  v5 := Tryz.zeroValue5
  infoByte := by kernel_rfl
  cellsByte := by kernel_rfl
  sizeByte := by kernel_rfl
  neB5 := by decide }
open Go.RowKit in
theorem Tryz.strings_Join_none (a : Option Addr) (c : Nat) (sep : ByteArray) (w : World) :
    Calls Tryz.prog 235 #[.slice a 0 c, .string sep] w fun e w' => e = .returned (.string ⟨#[]⟩) ∧ w' = w := Any.strings_Join_none Tryz.lays156 Tryz.Builder_Extra_156 a c sep w
open Go.RowKit in
theorem Tryz.strings_Join (bk o c : Nat) (xs : List ByteArray) (sep : ByteArray) (w : World) (hcells : ∀ (j : Nat) x, xs[j]? = some x → w.cell? ⟨bk, o + j, none⟩ = some (.string x)) (hbk : bk < w.heap.size) (hN : xs.length ≤ 140737488355328) (hcap : xs.length ≤ c) (hlen : (Lib.join (xs.map (·.data.toList)) sep.data.toList).length ≤ 140737488355328) :
    Calls Tryz.prog 235 #[.slice (some ⟨bk, o, none⟩) xs.length c, .string sep] w fun e w' => e = .returned (.string ⟨(Lib.join (xs.map (·.data.toList)) sep.data.toList).toArray⟩) ∧ Below w.heap.size w w' := Any.strings_Join Tryz.lays156 Tryz.Builder_Extra_156 bk o c xs sep w hcells hbk hN hcap hlen
def Tryz.lays146_ren : Go.Shelf.Ren := ⟨fun | 146 => 180 | 221 => 231 | 268 => 259 | 138 => 260 | 143 => 261 | 195 => 275 | 197 => 276 | 218 => 277 | 219 => 278 | 260 => 292 | 217 => 293 | 225 => 294 | 224 => 295 | 267 => 296 | 266 => 305 | 314 => 306 | n => n, fun | 9 => 9 | 31 => 132 | 3 => 3 | 4 => 4 | 0 => 0 | 105 => 188 | 21 => 21 | 5 => 5 | 46 => 121 | 119 => 207 | 139 => 210 | 138 => 209 | 146 => 211 | 51 => 167 | n => n, fun | 1 => 2 | 3 => 3 | 4 => 4 | n => n⟩
theorem Tryz.lays146 : Go.Proofs.Lays.n146 Tryz.prog Tryz.lays146_ren := {
  mixed := by kernel_rfl
  f138 := Tryz.func260.trans (congrArg some (by kernel_rfl))
  f143 := Tryz.func261.trans (congrArg some (by kernel_rfl))
  f146 := Tryz.func180.trans (congrArg some (by kernel_rfl))
  f195 := Tryz.func275.trans (congrArg some (by kernel_rfl))
  f197 := Tryz.func276.trans (congrArg some (by kernel_rfl))
  f217 := Tryz.func293.trans (congrArg some (by kernel_rfl))
  f218 := Tryz.func277.trans (congrArg some (by kernel_rfl))
  f219 := Tryz.func278.trans (congrArg some (by kernel_rfl))
  f221 := Tryz.func231.trans (congrArg some (by kernel_rfl))
  f224 := Tryz.func295.trans (congrArg some (by kernel_rfl))
  f225 := Tryz.func294.trans (congrArg some (by kernel_rfl))
  f260 := Tryz.func292.trans (congrArg some (by kernel_rfl))
  f266 := Tryz.func305.trans (congrArg some (by kernel_rfl))
  f267 := Tryz.func296.trans (congrArg some (by kernel_rfl))
  f268 := Tryz.func259.trans (congrArg some (by kernel_rfl))
  f314 := Tryz.func306.trans (congrArg some (by kernel_rfl))
  t0 := Tryz.underlying0
  a0 := Tryz.isAgg0
  z0 := Tryz.sizeOf0
  v0 := Tryz.zeroValue0
  t3 := Tryz.underlying3
  a3 := Tryz.isAgg3
  z3 := Tryz.sizeOf3
  v3 := Tryz.zeroValue3
  t4 := Tryz.underlying4
  a4 := Tryz.isAgg4
  z4 := Tryz.sizeOf4
  v4 := Tryz.zeroValue4
  t5 := Tryz.underlying5
  a5 := Tryz.isAgg5
  z5 := Tryz.sizeOf5
  v5 := Tryz.zeroValue5
  t9 := Tryz.underlying9
  a9 := Tryz.isAgg9
  z9 := Tryz.sizeOf9
  v9 := Tryz.zeroValue9
  t21 := Tryz.underlying21
  a21 := Tryz.isAgg21
  z21 := Tryz.sizeOf21
  v21 := Tryz.zeroValue21
  t31 := Tryz.underlying132
  a31 := Tryz.isAgg132
  z31 := Tryz.sizeOf132
  v31 := Tryz.zeroValue132
  t46 := Tryz.underlying121
  a46 := Tryz.isAgg121
  z46 := Tryz.sizeOf121
  v46 := Tryz.zeroValue121
  t51 := Tryz.underlying167
  a51 := Tryz.isAgg167
  z51 := Tryz.sizeOf167
  v51 := Tryz.zeroValue167
  t105 := Tryz.underlying188
  a105 := Tryz.isAgg188
  z105 := Tryz.sizeOf188
  v105 := Tryz.zeroValue188
  t119 := Tryz.underlying207
  a119 := Tryz.isAgg207
  z119 := Tryz.sizeOf207
  t138 := Tryz.underlying209
  a138 := Tryz.isAgg209
  z138 := Tryz.sizeOf209
  v138 := Tryz.zeroValue209
  t139 := Tryz.underlying210
  a139 := Tryz.isAgg210
  z139 := Tryz.sizeOf210
  v139 := Tryz.zeroValue210
  t146 := Tryz.underlying211
  a146 := Tryz.isAgg211
  z146 := Tryz.sizeOf211
  v146 := Tryz.zeroValue211
  g1 := by kernel_rfl
  g3 := by kernel_rfl
  g4 := by kernel_rfl }
open Go.RowKit Go.Lib in
theorem Tryz.strings_Split (s sep : ByteArray) (m : Int) (w : World) (hs : s.size < 4294967281) (hm : w.cell? ⟨2, 0, none⟩ = some (.int .i64 m)) (h1 : 1 ≤ sep.size) :
    Calls Tryz.prog 180 #[.string s, .string sep] w fun e w' =>
      e = .returned (.slice (some ⟨w.heap.size, 0, none⟩) (Lib.countB s sep + 1) (Lib.countB s sep + 1)) ∧ w' = w.alloc (.cells ((Lib.splitB sep 0 (Lib.countB s sep) s).map Value.string).toArray 9) := Any.strings_Split Tryz.lays146 (by kernel_rfl) s sep m w hs hm h1
def Tryz.laysM146_ren : Go.Shelf.Ren := ⟨fun | 146 => 180 | 221 => 231 | 268 => 259 | 138 => 260 | 143 => 261 | 195 => 275 | 197 => 276 | 218 => 277 | 219 => 278 | 260 => 292 | 217 => 293 | 225 => 294 | 224 => 295 | 267 => 296 | 266 => 305 | 314 => 306 | n => n, fun | 9 => 9 | 31 => 132 | 3 => 3 | 4 => 4 | 0 => 0 | 105 => 188 | 21 => 21 | 5 => 5 | 46 => 121 | 119 => 207 | 139 => 210 | 138 => 209 | 146 => 211 | 51 => 167 | n => n, fun | 1 => 2 | 3 => 3 | 4 => 4 | n => n⟩
theorem Tryz.laysM146 : Go.Proofs.LaysM.n146 Tryz.prog Tryz.laysM146_ren := {
  mixed := by kernel_rfl
  f138 := Tryz.func260.trans (congrArg some (by kernel_rfl))
  f143 := Tryz.func261.trans (congrArg some (by kernel_rfl))
  f146 := Tryz.func180.trans (congrArg some (by kernel_rfl))
  f195 := Tryz.func275.trans (congrArg some (by kernel_rfl))
  f197 := Tryz.func276.trans (congrArg some (by kernel_rfl))
  f217 := Tryz.func293.trans (congrArg some (by kernel_rfl))
  f218 := Tryz.func277.trans (congrArg some (by kernel_rfl))
  f219 := Tryz.func278.trans (congrArg some (by kernel_rfl))
  f221 := Tryz.func231.trans (congrArg some (by kernel_rfl))
  f224 := Tryz.func295.trans (congrArg some (by kernel_rfl))
  f225 := Tryz.func294.trans (congrArg some (by kernel_rfl))
  f260 := Tryz.func292.trans (congrArg some (by kernel_rfl))
  f266 := Tryz.func305.trans (congrArg some (by kernel_rfl))
  f267 := Tryz.func296.trans (congrArg some (by kernel_rfl))
  f268 := Tryz.func259.trans (congrArg some (by kernel_rfl))
  f314 := Tryz.func306.trans (congrArg some (by kernel_rfl))
  t0 := Tryz.underlying0
  a0 := Tryz.isAgg0
  z0 := Tryz.sizeOf0
  v0 := Tryz.zeroValue0
  t3 := Tryz.underlying3
  a3 := Tryz.isAgg3
  z3 := Tryz.sizeOf3
  v3 := Tryz.zeroValue3
  t4 := Tryz.underlying4
  a4 := Tryz.isAgg4
  z4 := Tryz.sizeOf4
  v4 := Tryz.zeroValue4
  t5 := Tryz.underlying5
  a5 := Tryz.isAgg5
  z5 := Tryz.sizeOf5
  v5 := Tryz.zeroValue5
  t9 := Tryz.underlying9
  a9 := Tryz.isAgg9
  z9 := Tryz.sizeOf9
  v9 := Tryz.zeroValue9
  t21 := Tryz.underlying21
  a21 := Tryz.isAgg21
  z21 := Tryz.sizeOf21
  v21 := Tryz.zeroValue21
  t31 := Tryz.underlying132
  a31 := Tryz.isAgg132
  z31 := Tryz.sizeOf132
  v31 := Tryz.zeroValue132
  t46 := Tryz.underlying121
  a46 := Tryz.isAgg121
  z46 := Tryz.sizeOf121
  v46 := Tryz.zeroValue121
  t51 := Tryz.underlying167
  a51 := Tryz.isAgg167
  z51 := Tryz.sizeOf167
  v51 := Tryz.zeroValue167
  t105 := Tryz.underlying188
  a105 := Tryz.isAgg188
  z105 := Tryz.sizeOf188
  v105 := Tryz.zeroValue188
  t119 := Tryz.underlying207
  a119 := Tryz.isAgg207
  z119 := Tryz.sizeOf207
  t138 := Tryz.underlying209
  a138 := Tryz.isAgg209
  z138 := Tryz.sizeOf209
  v138 := Tryz.zeroValue209
  t139 := Tryz.underlying210
  a139 := Tryz.isAgg210
  z139 := Tryz.sizeOf210
  v139 := Tryz.zeroValue210
  t146 := Tryz.underlying211
  a146 := Tryz.isAgg211
  z146 := Tryz.sizeOf211
  v146 := Tryz.zeroValue211
  g1 := by kernel_rfl
  g3 := by kernel_rfl
  g4 := by kernel_rfl
  i0 := by kernel_rfl
  i3 := by kernel_rfl
  i4 := by kernel_rfl
  i5 := by kernel_rfl
  i9 := by kernel_rfl
  i21 := by kernel_rfl
  i31 := by kernel_rfl
  i46 := by kernel_rfl
  i51 := by kernel_rfl
  i105 := by kernel_rfl
  i138 := by kernel_rfl
  i139 := by kernel_rfl
  i146 := by kernel_rfl
  m1 := by kernel_rfl
  s1_3 := fun w h => Go.Proofs.cell_of_shapedOpen_int (zero := #[.int .i64 0]) (t := 3) h (of_decide_eq_true (by kernel_rfl)) (by kernel_rfl) rfl (by kernel_rfl) (by kernel_rfl) Tryz.underlying3
  m3 := by kernel_rfl
  m4 := by kernel_rfl }
end Go.Proofs
namespace Go.Proofs.YtafnamchckehmaaGreatDoor.Pu
open Go.RowKit Go.Proofs.YtafnamchckehmaaGreatDoorW.PrintWords Go.Proofs.YtafnamchckehmaaGreatDoorW.PrintLast Go.Proofs.YtafnamchckehmaaGreatDoorW.PrintMore Go.Proofs.YtafnamchckehmaaGreatDoor.Pr
theorem ev_fold {α β : Type} {g : Nat → α → Int → Option β} (f : Nat → α → α) (inv : Nat → α → Prop) {res : β} {N : Nat}
    (hs : ∀ i a, i < N → inv i a → Ev (fun k => g k (f i a) ((i + 1 : Nat) : Int)) res → Ev (fun k => g k a (i : Int)) res)
    (hp : ∀ i a, i < N → inv i a → inv (i + 1) (f i a)) :
    ∀ (d i : Nat) (a : α), i + d = N → inv i a → (∀ b, b = foldIdx f i N a → inv N b → Ev (fun k => g k b (N : Int)) res) → Ev (fun k => g k a (i : Int)) res := by
  intro d
  induction d with
  | zero =>
    intro i a h hi he
    obtain rfl : i = N := by omega
    exact he a (foldIdx_end f (Nat.le_refl _) a).symm hi
  | succ d ih =>
    intro i a h hi he
    refine hs i a (by omega) hi (ih (i + 1) (f i a) (by omega) (hp i a (by omega) hi) fun b hb hb' => he b ?_ hb')
    rw [hb, ← foldIdx_step f (by omega)]
def bitStep (b : Nat → Bool) (i a : Nat) : Nat := if b i = true then a ||| 2 ^ i else a
theorem fold_bits (b : Nat → Bool) : ∀ n, foldIdx (bitStep b) 0 n 0 = ofBits b n
  | 0 => foldIdx_end _ (Nat.le_refl _) _
  | n + 1 => by
    rw [foldIdx_last _ (Nat.zero_le _), fold_bits b n, ofBits, bitStep]
    cases b n <;> simp
theorem bitStep_lt {b : Nat → Bool} {i a n : Nat} (hi : i < n) (ha : a < 2 ^ n) : bitStep b i a < 2 ^ n := by
  unfold bitStep
  split
  · exact Nat.or_lt_two_pow ha (Nat.pow_lt_pow_right (by decide) hi)
  · exact ha
theorem shl_one (e : Nat) (he : e ≤ 8) : shl .i64 1 (e : Int) = ((2 ^ e : Nat) : Int) := by
  have h : e = 0 ∨ e = 1 ∨ e = 2 ∨ e = 3 ∨ e = 4 ∨ e = 5 ∨ e = 6 ∨ e = 7 ∨ e = 8 := by omega
  rcases h with rfl | rfl | rfl | rfl | rfl | rfl | rfl | rfl | rfl <;> decide +kernel
theorem shl_zero (e : Nat) (he : e ≤ 8) : shl .i64 0 (e : Int) = 0 := by
  have h : e = 0 ∨ e = 1 ∨ e = 2 ∨ e = 3 ∨ e = 4 ∨ e = 5 ∨ e = 6 ∨ e = 7 ∨ e = 8 := by omega
  rcases h with rfl | rfl | rfl | rfl | rfl | rfl | rfl | rfl | rfl <;> decide +kernel
theorem pow_256 {n : Nat} (h : n ≤ 8) : 2 ^ n ≤ 256 := show 2 ^ n ≤ 2 ^ 8 from Nat.pow_le_pow_right (by decide) h
theorem lt_256 {n a : Nat} (h : n ≤ 8) (ha : a < 2 ^ n) : a < 256 := Nat.lt_of_lt_of_le ha (pow_256 h)
theorem or_bit {a e : Nat} (ha : a < 256) (he : e ≤ 7) : Go.bits .or .i64 (a : Int) (shl .i64 1 (e : Int)) = ((a ||| 2 ^ e : Nat) : Int) := by
  have h8 : 2 ^ e ≤ 2 ^ 7 := Nat.pow_le_pow_right (by decide) he
  rw [shl_one e (by omega)]
  exact or_nat (by omega) (by omega)
theorem and_is {a b : Nat} (ha : a < 256) (hb : b < 256) : (Go.bits .and .i64 (b : Int) (a : Int) = (a : Int)) ↔ sub a b = true := by
  rw [and_nat (by omega) (by omega), Nat.and_comm, Int.natCast_inj]
  unfold sub
  simp
theorem and_is' {a b : Nat} (ha : a < 256) (hb : b < 256) : (Go.bits .and .i64 (a : Int) (b : Int) = (a : Int)) ↔ sub a b = true := by
  rw [and_nat (by omega) (by omega), Int.natCast_inj]
  unfold sub
  simp
theorem andNot_is {a b : Nat} (ha : a < 256) (hb : b < 256) : (Go.bits .andNot .i64 (a : Int) (b : Int) = 0) ↔ sub a b = true := by
  rw [andNot_nat (by omega) (by omega), ← diff_eq_zero]
  omega
def cast (R : List Nat) : List Int := R.map fun (x : Nat) => (x : Int)
theorem cast_length (R : List Nat) : (cast R).length = R.length := List.length_map ..
theorem rd_cast (R : List Nat) (i : Nat) : rd (cast R) (i : Int) = ((R.getD i 0 : Nat) : Int) := by
  rw [rd_nat]
  unfold cast
  rw [List.getD_eq_getElem?_getD, List.getD_eq_getElem?_getD, List.getElem?_map]
  cases R[i]? <;> rfl
theorem cast_of {l : List Int} (h : ∀ x ∈ l, 0 ≤ x) : l = cast (l.map Int.toNat) := by
  unfold cast
  rw [List.map_map]
  conv => lhs; rw [← List.map_id l]
  refine List.map_congr_left fun x hx => ?_
  have := h x hx
  simp [Int.toNat_of_nonneg this]
theorem and_255 (x : Int) : 0 ≤ Go.bits .and .i64 x 255 ∧ Go.bits .and .i64 x 255 ≤ 255 := by
  have e : Go.bits .and .i64 x 255 = IntKind.i64.wrap (((BitVec.ofInt 64 x &&& BitVec.ofInt 64 255).toNat : Nat) : Int) := rfl
  have hq : (BitVec.ofInt 64 x &&& BitVec.ofInt 64 255).toNat ≤ 255 := by
    rw [BitVec.toNat_and]
    exact Nat.le_trans Nat.and_le_right (by decide)
  rw [e, wraps_i64 _ (by omega) (by omega)]
  omega
theorem byte_ex (b : List Int) (hb : b.length ≤ 1048576) (i h : Int) (h0 : 0 ≤ i) : ∃ x i' h' : Int, spec_l1Byte.f b i h = some (x, i', h') ∧ 0 ≤ x ∧ x ≤ 255 ∧ 0 ≤ i' := by
  unfold spec_l1Byte.f
  by_cases hi : i < (b.length : Int)
  · rw [if_pos hi, if_pos h0]
    exact ⟨_, _, _, rfl, (and_255 _).1, (and_255 _).2, by unfold wrap64; omega⟩
  · rw [if_neg hi]
    exact ⟨_, _, _, rfl, (and_255 _).1, (and_255 _).2, h0⟩
theorem tmod_in {a n : Int} (h0 : 0 ≤ a) (hn : 0 < n) : 0 ≤ Int.tmod a n ∧ Int.tmod a n < n := by
  rw [Int.tmod_eq_emod_of_nonneg h0]
  exact ⟨Int.emod_nonneg _ (by omega), Int.emod_lt_of_pos _ hn⟩
theorem below_ex (b : List Int) (hb : b.length ≤ 1048576) (i h : Int) (h0 : 0 ≤ i) (n : Int) : ∃ x i' h' : Int, spec_l1Below.f b i h n = some (x, i', h') ∧ 0 ≤ x ∧ (0 < n → x < n) ∧ 0 ≤ i' := by
  unfold spec_l1Below.f
  by_cases h1 : n ≤ 0
  · rw [if_pos h1]
    exact ⟨_, _, _, rfl, by omega, fun h => by omega, h0⟩
  · rw [if_neg h1]
    have hn : 0 < n := by omega
    obtain ⟨x, i1, h2, e1, x0, x1, k1⟩ := byte_ex b hb i h h0
    by_cases h3 : n ≤ 256
    · rw [if_pos h3, e1, Option.bind_some, if_neg (by omega)]
      exact ⟨_, _, _, rfl, (tmod_in x0 hn).1, fun _ => (tmod_in x0 hn).2, k1⟩
    · obtain ⟨y, i2, h4, e2, y0, y1, k2⟩ := byte_ex b hb i1 h2 k1
      obtain ⟨z, i3, h5, e3, z0, z1, k3⟩ := byte_ex b hb i2 h4 k2
      obtain ⟨u, i4, h6, e4, u0, u1, k4⟩ := byte_ex b hb i3 h5 k3
      rw [if_neg h3, e1, Option.bind_some]
      dsimp only
      rw [e2, Option.bind_some]
      dsimp only
      rw [e3, Option.bind_some]
      dsimp only
      rw [e4, Option.bind_some]
      dsimp only
      rw [if_neg (by omega)]
      have w1 : wrap64 (x * 16777216) = x * 16777216 := by unfold wrap64; omega
      have w2 : wrap64 (y * 65536) = y * 65536 := by unfold wrap64; omega
      have w3 : wrap64 (z * 256) = z * 256 := by unfold wrap64; omega
      have w4 : wrap64 (x * 16777216 + y * 65536) = x * 16777216 + y * 65536 := by unfold wrap64; omega
      have w5 : wrap64 (x * 16777216 + y * 65536 + z * 256) = x * 16777216 + y * 65536 + z * 256 := by unfold wrap64; omega
      have w6 : wrap64 (x * 16777216 + y * 65536 + z * 256 + u) = x * 16777216 + y * 65536 + z * 256 + u := by unfold wrap64; omega
      rw [w1, w2, w3, w4, w5, w6]
      have hs : 0 ≤ x * 16777216 + y * 65536 + z * 256 + u := by omega
      exact ⟨_, _, _, rfl, (tmod_in hs hn).1, fun _ => (tmod_in hs hn).2, k4⟩
theorem once_ex (b : List Int) (hb : b.length ≤ 1048576) (i h : Int) (h0 : 0 ≤ i) (n : Int) : ∃ (x : Bool) (i' h' : Int), spec_l1Once.f b i h n = some (x, i', h') ∧ 0 ≤ i' := by
  obtain ⟨x, i1, h1, e, _, _, k⟩ := below_ex b hb i h h0 n
  unfold spec_l1Once.f
  rw [e, Option.bind_some]
  exact ⟨_, _, _, rfl, k⟩
theorem rd_mem {l : List Int} {x : Int} (h0 : 0 ≤ x) (h1 : x < (l.length : Int)) : rd l x ∈ l := by
  obtain ⟨j, rfl⟩ : ∃ j : Nat, x = (j : Int) := ⟨x.toNat, by omega⟩
  rw [rd_nat, List.getD_eq_getElem?_getD, List.getElem?_eq_getElem (by omega)]
  exact List.getElem_mem _
theorem pick_ex (b : List Int) (hb : b.length ≤ 1048576) (i h : Int) (h0 : 0 ≤ i) (l : List Int) (hl : 0 < l.length) : ∃ x i' h' : Int, spec_l1PickInt.f b i h l = some (x, i', h') ∧ x ∈ l ∧ 0 ≤ i' := by
  obtain ⟨x, i1, h1, e, x0, x1, k⟩ := below_ex b hb i h h0 (l.length : Int)
  have x1 := x1 (by omega)
  unfold spec_l1PickInt.f
  rw [e, Option.bind_some]
  dsimp only
  rw [if_pos x0, if_pos x1]
  exact ⟨_, _, _, rfl, rd_mem x0 x1, k⟩
theorem u64_nonneg (a : Int) : 0 ≤ IntKind.u64.wrap a := by
  rw [show IntKind.u64.wrap a = a % 18446744073709551616 from by simp [IntKind.wrap, IntKind.bits, IntKind.signed]]
  omega
theorem make_loop (b : List Int) (hb : b.length ≤ 1048576) (a n : Int) (N : Nat) (hN : N ≤ 1000) : ∀ (d j : Nat) (i h : Int) (l : List Int), j + d = N → 0 ≤ i → l.length ≤ j → ∃ v : Int × List Int × Int × Int, Ev (fun k => spec_l3Make.l0 k a (N : Int) (j : Int) b i h n l) v ∧ v.1 = n ∧ v.2.1.length ≤ N ∧ 0 ≤ v.2.2.1 := by
  intro d
  induction d with
  | zero =>
    intro j i h l hj h0 hl
    refine ⟨(n, l, i, h), Ev.step (f := fun _ => some (n, l, i, h)) (fun k => ?_) (Ev.now _), rfl, by dsimp only; omega, h0⟩
    simp only [spec_l3Make.l0]
    rw [if_neg (by omega)]
  | succ d ih =>
    intro j i h l hj h0 hl
    obtain ⟨x, i1, h1, e1, k1⟩ := once_ex b hb i h h0 2
    obtain ⟨y, i2, h2, e2, _, _, k2⟩ := below_ex b hb i1 h1 k1 (shl .i64 1 (IntKind.u64.wrap a))
    cases x with
    | true =>
      obtain ⟨v, hv, hv2⟩ := ih (j + 1) i2 h2 (l ++ [y]) (by omega) k2 (by rw [List.length_append, List.length_singleton]; omega)
      refine ⟨v, Ev.step (fun k => ?_) hv, hv2⟩
      simp only [spec_l3Make.l0]
      rw [if_pos (by omega), e1, Option.bind_some]
      dsimp only
      rw [if_pos rfl, if_pos (u64_nonneg _), e2, Option.bind_some]
      dsimp only
      rw [if_pos (by omega), show wrap64 ((j : Int) + 1) = ((j + 1 : Nat) : Int) from by unfold wrap64; omega]
    | false =>
      obtain ⟨z, i3, h3, e3, _, _, k3⟩ := below_ex b hb i2 h2 k2 (shl .i64 1 (IntKind.u64.wrap a))
      obtain ⟨v, hv, hv2⟩ := ih (j + 1) i3 h3 (l ++ [Go.bits .or .i64 y z]) (by omega) k3 (by rw [List.length_append, List.length_singleton]; omega)
      refine ⟨v, Ev.step (fun k => ?_) hv, hv2⟩
      simp only [spec_l3Make.l0]
      rw [if_pos (by omega), e1, Option.bind_some]
      dsimp only
      rw [if_neg (by decide), if_pos (u64_nonneg _), e2, Option.bind_some]
      dsimp only
      rw [e3, Option.bind_some]
      dsimp only
      rw [if_pos (by omega), show wrap64 ((j : Int) + 1) = ((j + 1 : Nat) : Int) from by unfold wrap64; omega]
theorem make_ex (b : List Int) (hb : b.length ≤ 1048576) (i h : Int) (h0 : 0 ≤ i) (n : Int) (m : Nat) (hm : m < 1000) : ∃ v : Int × List Int × Int × Int, Ev (fun k => spec_l3Make.f k b i h n (m : Int)) v ∧ v.1 = n ∧ v.2.1.length ≤ m ∧ 0 ≤ v.2.2.1 := by
  have w : wrap64 ((m : Int) + 1) = ((m + 1 : Nat) : Int) := by unfold wrap64; omega
  obtain ⟨x, i1, h1, e, x0, x1, k⟩ := below_ex b hb i h h0 ((m + 1 : Nat) : Int)
  have x1 := x1 (by omega)
  obtain ⟨q, rfl⟩ : ∃ q : Nat, x = (q : Int) := ⟨x.toNat, by omega⟩
  obtain ⟨v, hv, e1, e2, e3⟩ := make_loop b hb n n q (by omega) q 0 i1 h1 [] (by omega) k (Nat.le_refl _)
  refine ⟨v, ?_, e1, by omega, e3⟩
  unfold spec_l3Make.f
  rw [w, e]
  exact hv
theorem draw3_ex (b : List Int) (hb : b.length ≤ 1048576) (i h : Int) (h0 : 0 ≤ i) : ∃ v : Int × List Int × Int × Int, Ev (fun k => spec_l3Draw.f k b i h) v ∧ (0 ≤ v.1 ∧ v.1 ≤ 5) ∧ v.2.1.length ≤ 6 ∧ 0 ≤ v.2.2.1 := by
  obtain ⟨x, i1, h1, e, x0, k⟩ := pick_ex b hb i h h0 [0, 1, 2, 3, 3, 4, 4, 5, 5] (by decide)
  obtain ⟨v, hv, e1, e2, e3⟩ := make_ex b hb i1 h1 k x 6 (by decide)
  refine ⟨v, ?_, ?_, e2, e3⟩
  · unfold spec_l3Draw.f
    simp only [e, Option.bind_some]
    exact Ev.bind hv (Ev.now _)
  · rw [e1]
    simp at x0
    omega
theorem bent2_ex (b : List Int) (hb : b.length ≤ 1048576) (i h : Int) (h0 : 0 ≤ i) : ∃ x i' h' : Int, spec_l2Bent.f b i h = some (x, i', h') ∧ 0 ≤ i' := by
  obtain ⟨x, i1, h1, e, k⟩ := once_ex b hb i h h0 8
  unfold spec_l2Bent.f
  rw [e, Option.bind_some]
  dsimp only
  cases x with
  | true =>
    obtain ⟨y, i2, h2, e2, _, k2⟩ := pick_ex b hb i1 h1 k [(-1), 256, 1000, (-9223372036854775808)] (by decide)
    rw [if_pos rfl, e2]
    exact ⟨_, _, _, rfl, k2⟩
  | false =>
    obtain ⟨y, i2, h2, e2, _, _, k2⟩ := below_ex b hb i1 h1 k 256
    rw [if_neg (by decide), e2]
    exact ⟨_, _, _, rfl, k2⟩
theorem bent3_loop (b : List Int) (i h n : Int) : ∀ (d : Nat) (l : List Int), 9 ≤ l.length + d → l.length ≤ 9 → ∃ l' : List Int, Ev (fun k => spec_l3Bent.l0 k b i h n l) (n, l', i, h) ∧ l'.length ≤ 9 := by
  intro d
  induction d with
  | zero =>
    intro l hl h9
    refine ⟨l, Ev.step (f := fun _ => some (n, l, i, h)) (fun k => ?_) (Ev.now _), h9⟩
    simp only [spec_l3Bent.l0]
    rw [if_neg (by omega)]
  | succ d ih =>
    intro l hl h9
    by_cases hlt : l.length < 9
    · obtain ⟨l', hv, h'⟩ := ih (l ++ [0]) (by rw [List.length_append, List.length_singleton]; omega) (by rw [List.length_append, List.length_singleton]; omega)
      refine ⟨l', Ev.step (fun k => ?_) hv, h'⟩
      simp only [spec_l3Bent.l0]
      rw [if_pos (by omega), if_pos (by omega)]
    · refine ⟨l, Ev.step (f := fun _ => some (n, l, i, h)) (fun k => ?_) (Ev.now _), h9⟩
      simp only [spec_l3Bent.l0]
      rw [if_neg (by omega)]
theorem bent3_ex (b : List Int) (hb : b.length ≤ 1048576) (i h : Int) (h0 : 0 ≤ i) : ∃ v : Int × List Int × Int × Int, Ev (fun k => spec_l3Bent.f k b i h) v ∧ v.2.1.length ≤ 9 ∧ 0 ≤ v.2.2.1 ∧ (v.1 ≤ 5 ∨ v.1 = 7) := by
  obtain ⟨⟨n, l, i1, h1⟩, hv, e1, e2, e3⟩ := draw3_ex b hb i h h0
  dsimp only at e1 e2 e3
  obtain ⟨y, i2, h2, ey, y0, y1, k2⟩ := below_ex b hb i1 h1 e3 14
  have go : ∀ w, Ev (fun k => if y = 0 then ((spec_l1PickInt.f b i2 h2 ([(-1), 0, 2, 7] : List Int)).bind fun bt => (some (bt.1, l, bt.2.1, bt.2.2))) else (if y = 1 then ((spec_l2Bent.f b i2 h2).bind fun bt => (if l.length < 17592186044416 then (some (n, (l ++ [bt.1]), bt.2.1, bt.2.2)) else (none))) else (if y = 2 then (spec_l3Bent.l0 k b i2 h2 n l) else (some (n, l, i2, h2))))) w → Ev (fun k => spec_l3Bent.f k b i h) w := by
    intro w hw
    unfold spec_l3Bent.f
    refine Ev.bind hv ?_
    dsimp only
    rw [ey]
    exact hw
  by_cases h3 : y = 0
  · obtain ⟨z, i3, h4, e4, z0, k3⟩ := pick_ex b hb i2 h2 k2 [(-1), 0, 2, 7] (by decide)
    refine ⟨(z, l, i3, h4), go _ (Ev.congr (fun k => ?_) (Ev.now _)), by dsimp only; omega, k3, ?_⟩
    · rw [if_pos h3, e4]; rfl
    · simp at z0; dsimp only; omega
  · by_cases h4 : y = 1
    · obtain ⟨z, i3, h5, e5, k3⟩ := bent2_ex b hb i2 h2 k2
      refine ⟨(n, l ++ [z], i3, h5), go _ (Ev.congr (fun k => ?_) (Ev.now _)), by dsimp only; rw [List.length_append, List.length_singleton]; omega, k3, by dsimp only; omega⟩
      rw [if_neg h3, if_pos h4, e5, Option.bind_some, if_pos (by omega)]
    · by_cases h5 : y = 2
      · obtain ⟨l', hl, h9⟩ := bent3_loop b i2 h2 n 9 l (by omega) (by omega)
        exact ⟨(n, l', i2, h2), go _ (Ev.congr (fun k => by rw [if_neg h3, if_neg h4, if_pos h5]) hl), h9, k2, by dsimp only; omega⟩
      · exact ⟨(n, l, i2, h2), go _ (Ev.congr (fun k => by rw [if_neg h3, if_neg h4, if_neg h5]) (Ev.now _)), by dsimp only; omega, k2, by dsimp only; omega⟩
theorem new_loop (b : List Int) (_hb : b.length ≤ 1048576) : ∀ (d j : Nat) (h : Int), 4000 ≤ j + d → ∃ h' : Int, Ev (fun k => spec_l1New.l0 k b h (j : Int)) (b, 0, h') := by
  intro d
  induction d with
  | zero =>
    intro j h hj
    by_cases h1 : (j : Int) < (b.length : Int)
    · refine ⟨h, Ev.step (f := fun _ => some (b, 0, h)) (fun k => ?_) (Ev.now _)⟩
      simp only [spec_l1New.l0]
      rw [if_pos h1, if_neg (by omega)]
    · refine ⟨h, Ev.step (f := fun _ => some (b, 0, h)) (fun k => ?_) (Ev.now _)⟩
      simp only [spec_l1New.l0]
      rw [if_neg h1]
  | succ d ih =>
    intro j h hj
    by_cases h1 : (j : Int) < (b.length : Int)
    · by_cases h2 : (j : Int) < 4000
      · obtain ⟨h', hv⟩ := ih (j + 1) (Go.bits .and .i64 (wrap64 ((wrap64 ((wrap64 (h * 131)) + (wrap64 (rd b (j : Int))))) + 7)) 1073741823) (by omega)
        refine ⟨h', Ev.step (fun k => ?_) hv⟩
        simp only [spec_l1New.l0]
        rw [if_pos h1, if_pos h2, if_pos (by omega), show wrap64 ((j : Int) + 1) = ((j + 1 : Nat) : Int) from by unfold wrap64; omega]
      · refine ⟨h, Ev.step (f := fun _ => some (b, 0, h)) (fun k => ?_) (Ev.now _)⟩
        simp only [spec_l1New.l0]
        rw [if_pos h1, if_neg h2]
    · refine ⟨h, Ev.step (f := fun _ => some (b, 0, h)) (fun k => ?_) (Ev.now _)⟩
      simp only [spec_l1New.l0]
      rw [if_neg h1]
theorem new_ex (b : List Int) (hb : b.length ≤ 1048576) : ∃ h' : Int, Ev (fun k => spec_l1New.f k b) (b, 0, h') := by
  unfold spec_l1New.f
  exact new_loop b hb 4000 0 _ (by omega)
theorem make9_ex (b : List Int) (hb : b.length ≤ 1048576) (i h : Int) (h0 : 0 ≤ i) (n : Int) : ∃ x y i' h' : Int, spec_l9Make.f b i h n = some (x, y, i', h') ∧ 0 ≤ i' := by
  obtain ⟨x, i1, h1, e1, _, _, k1⟩ := below_ex b hb i h h0 (shl .i64 1 (IntKind.u64.wrap n))
  obtain ⟨y, i2, h2, e2, _, _, k2⟩ := below_ex b hb i1 h1 k1 (shl .i64 1 (IntKind.u64.wrap n))
  obtain ⟨z, i3, h3, e3, _, _, k3⟩ := below_ex b hb i2 h2 k2 (shl .i64 1 (IntKind.u64.wrap n))
  unfold spec_l9Make.f
  rw [if_pos (u64_nonneg _), e1, Option.bind_some]
  dsimp only
  rw [e2, Option.bind_some]
  dsimp only
  rw [e3, Option.bind_some]
  exact ⟨_, _, _, _, rfl, k3⟩
theorem draw9_loop (b : List Int) (hb : b.length ≤ 1048576) (n : Int) (N : Nat) (hN : N ≤ 1000) : ∀ (d j : Nat) (i h : Int) (l : List IR), j + d = N → 0 ≤ i → l.length ≤ j → ∃ v : List IR × Int × Int, Ev (fun k => spec_l9Draw.l0 k n l (N : Int) (j : Int) b i h) v ∧ v.1.length ≤ N ∧ 0 ≤ v.2.1 := by
  intro d
  induction d with
  | zero =>
    intro j i h l hj h0 hl
    refine ⟨(l, i, h), Ev.step (f := fun _ => some (l, i, h)) (fun k => ?_) (Ev.now _), by dsimp only; omega, h0⟩
    simp only [spec_l9Draw.l0]
    rw [if_neg (by omega)]
  | succ d ih =>
    intro j i h l hj h0 hl
    obtain ⟨x, y, i1, h1, e1, k1⟩ := make9_ex b hb i h h0 n
    obtain ⟨v, hv, hv2⟩ := ih (j + 1) i1 h1 (l ++ [⟨x, y⟩]) (by omega) k1 (by rw [List.length_append, List.length_singleton]; omega)
    refine ⟨v, Ev.step (fun k => ?_) hv, hv2⟩
    simp only [spec_l9Draw.l0]
    rw [if_pos (by omega), e1, Option.bind_some]
    dsimp only
    rw [if_pos (by omega), show wrap64 ((j : Int) + 1) = ((j + 1 : Nat) : Int) from by unfold wrap64; omega]
theorem draw9_ex (b : List Int) (hb : b.length ≤ 1048576) (i h : Int) (h0 : 0 ≤ i) (n : Int) : ∃ v : List IR × Int × Int, Ev (fun k => spec_l9Draw.f k b i h n) v ∧ v.1.length ≤ 4 ∧ 0 ≤ v.2.1 := by
  obtain ⟨x, i1, h1, e, x0, x1, k⟩ := below_ex b hb i h h0 5
  have x1 := x1 (by omega)
  obtain ⟨q, rfl⟩ : ∃ q : Nat, x = (q : Int) := ⟨x.toNat, by omega⟩
  obtain ⟨v, hv, e1, e2⟩ := draw9_loop b hb n q (by omega) q 0 i1 h1 [] (by omega) k (Nat.le_refl _)
  refine ⟨v, ?_, by omega, e2⟩
  unfold spec_l9Draw.f
  rw [e]
  exact hv
theorem bent9_ex (b : List Int) (hb : b.length ≤ 1048576) (i h : Int) (h0 : 0 ≤ i) (n : Int) : ∃ v : List IR × Int × Int, Ev (fun k => spec_l9Bent.f k b i h n) v ∧ v.1.length ≤ 5 ∧ 0 ≤ v.2.1 := by
  obtain ⟨⟨l, i1, h1⟩, hv, e1, e2⟩ := draw9_ex b hb i h h0 n
  dsimp only at e1 e2
  obtain ⟨o, i2, h2, eo, k2⟩ := once_ex b hb i1 h1 e2 10
  cases o with
  | true =>
    obtain ⟨x, i3, h3, e3, k3⟩ := bent2_ex b hb i2 h2 k2
    obtain ⟨y, i4, h4, e4, k4⟩ := bent2_ex b hb i3 h3 k3
    refine ⟨(l ++ [⟨x, y⟩], i4, h4), ?_, by dsimp only; rw [List.length_append, List.length_singleton]; omega, k4⟩
    unfold spec_l9Bent.f
    refine Ev.bind hv ?_
    dsimp only
    refine Ev.congr (fun k => ?_) (Ev.now _)
    rw [eo, Option.bind_some]
    dsimp only
    rw [if_pos rfl, e3, Option.bind_some]
    dsimp only
    rw [e4, Option.bind_some]
    dsimp only
    rw [if_pos (by omega)]
  | false =>
    refine ⟨(l, i2, h2), ?_, by dsimp only; omega, k2⟩
    unfold spec_l9Bent.f
    refine Ev.bind hv ?_
    dsimp only
    refine Ev.congr (fun k => ?_) (Ev.now _)
    rw [eo, Option.bind_some]
    dsimp only
    rw [if_neg (by decide)]
theorem closedBy_ex (b : List Int) (hb : b.length ≤ 1048576) : ∃ v : List IR × Int, Ev (fun k => spec_DrawClosedBy.f k b) v ∧ v.1.length ≤ 5 := by
  obtain ⟨h1, e1⟩ := new_ex b hb
  obtain ⟨⟨l, i2, h2⟩, e2, hl, k2⟩ := bent9_ex b hb 0 h1 (by decide) 5
  dsimp only at hl k2
  obtain ⟨o, i3, h3, eo, k3⟩ := once_ex b hb i2 h2 k2 12
  cases o with
  | true =>
    obtain ⟨x, i4, h4, e4, k4⟩ := bent2_ex b hb i3 h3 k3
    refine ⟨(l, x), ?_, hl⟩
    unfold spec_DrawClosedBy.f
    refine Ev.bind e1 (Ev.bind e2 ?_)
    dsimp only
    refine Ev.congr (fun k => ?_) (Ev.now _)
    rw [eo, Option.bind_some]
    dsimp only
    rw [if_pos rfl, e4, Option.bind_some]
  | false =>
    obtain ⟨x, i4, h4, e4, _, _, k4⟩ := below_ex b hb i3 h3 k3 32
    refine ⟨(l, x), ?_, hl⟩
    unfold spec_DrawClosedBy.f
    refine Ev.bind e1 (Ev.bind e2 ?_)
    dsimp only
    refine Ev.congr (fun k => ?_) (Ev.now _)
    rw [eo, Option.bind_some]
    dsimp only
    rw [if_neg (by decide), e4, Option.bind_some]
def full (n : Nat) : Nat := 2 ^ n - 1
theorem testBit_full (n i : Nat) : (full n).testBit i = decide (i < n) := Nat.testBit_two_pow_sub_one ..
theorem full_lt (n : Nat) : full n < 2 ^ n := by unfold full; have := Nat.two_pow_pos n; omega
def row (rows : List Nat) (g : Nat) : Nat := rows.getD g 0
def col (rows : List Nat) (m : Nat) : Nat := ofBits (fun g => (row rows g).testBit m) rows.length
def ext (rows : List Nat) (a : Nat) : Nat := ofBits (fun g => sub a (row rows g)) rows.length
def int (n : Nat) (rows : List Nat) (o : Nat) : Nat := ofBits (fun m => (List.range rows.length).all fun g => !o.testBit g || (row rows g).testBit m) n
def cl (n : Nat) (rows : List Nat) (a : Nat) : Nat := int n rows (ext rows a)
theorem testBit_ext {rows : List Nat} {a g : Nat} : (ext rows a).testBit g = (decide (g < rows.length) && sub a (row rows g)) := testBit_ofBits ..
theorem testBit_int {n : Nat} {rows : List Nat} {o m : Nat} : (int n rows o).testBit m = true ↔ m < n ∧ ∀ g, g < rows.length → o.testBit g = true → (row rows g).testBit m = true := by
  unfold int
  rw [testBit_ofBits, Bool.and_eq_true, decide_eq_true_iff, List.all_eq_true]
  constructor
  · rintro ⟨h1, h2⟩
    refine ⟨h1, fun g hg ho => ?_⟩
    have := h2 g (List.mem_range.2 hg)
    rw [ho] at this
    simpa using this
  · rintro ⟨h1, h2⟩
    refine ⟨h1, fun g hg => ?_⟩
    cases ho : o.testBit g with
    | false => rfl
    | true => simp [h2 g (List.mem_range.1 hg) ho]
theorem testBit_cl {n : Nat} {rows : List Nat} {a m : Nat} : (cl n rows a).testBit m = true ↔ m < n ∧ ∀ g, g < rows.length → sub a (row rows g) = true → (row rows g).testBit m = true := by
  unfold cl
  rw [testBit_int]
  refine and_congr_right fun _ => forall_congr' fun g => forall_congr' fun hg => ?_
  rw [testBit_ext]
  simp [hg]
theorem cl_lt (n : Nat) (rows : List Nat) (a : Nat) : cl n rows a < 2 ^ n := ofBits_lt ..
theorem sub_full {n a : Nat} (h : a < 2 ^ n) : sub a (full n) = true := sub_iff.2 fun i hi => by
  rw [testBit_full, decide_eq_true_iff]
  rcases Nat.lt_or_ge i n with h' | h'
  · exact h'
  · rw [lt_two_pow_iff.1 h i h'] at hi; cases hi
theorem cl_sub_row {n : Nat} {rows : List Nat} {a g : Nat} (hg : g < rows.length) (h : sub a (row rows g) = true) : sub (cl n rows a) (row rows g) = true := sub_iff.2 fun _ hi => (testBit_cl.1 hi).2 g hg h
def fullV (n : Int) : Int := if 0 ≤ n ∧ n ≤ 8 then 2 ^ n.toNat - 1 else 0
theorem fullS_val (n : Int) : spec_FullSet.f n = some (fullV n) := by
  unfold spec_FullSet.f fullV
  rw [l1In_val, Option.bind_some]
  by_cases h : 0 ≤ n ∧ n ≤ 8
  · rw [if_pos h]
    first
      | rw [if_pos (decide_eq_true h), wrapU_val n h.1 h.2, if_pos h.1, upper_val n h.1 h.2]
      | rw [if_neg (by simpa using h), wrapU_val n h.1 h.2, if_pos h.1, upper_val n h.1 h.2]
  · rw [if_neg h]
    first
      | rw [if_neg (by simpa using h)]
      | rw [if_pos (by simpa using h)]
theorem fullV_nat {m : Nat} (h : m ≤ 8) : fullV (m : Int) = ((2 ^ m - 1 : Nat) : Int) := by
  unfold fullV
  rw [if_pos (by omega), Int.toNat_natCast]
  have hp := Nat.two_pow_pos m
  rw [show ((2 ^ m - 1 : Nat) : Int) = ((2 ^ m : Nat) : Int) - 1 from by omega, Int.natCast_pow]
  rfl
theorem row_lt {R : List Nat} {q : Nat} (h : ∀ r ∈ R, r < 2 ^ q) (i : Nat) : row R i < 2 ^ q := by
  unfold row
  rw [List.getD_eq_getElem?_getD]
  cases h' : R[i]? with
  | none => exact Nat.two_pow_pos q
  | some x => exact h x (List.mem_of_getElem? h')
theorem rd_row (R : List Nat) (i : Nat) : rd (cast R) (i : Int) = ((row R i : Nat) : Int) := rd_cast R i
theorem inS_val {a b : Nat} (ha : a < 256) (hb : b < 256) : impl_inSet.f (a : Int) (b : Int) = some (sub a b) := by
  unfold impl_inSet.f
  refine congrArg some ?_
  rw [Bool.eq_iff_iff, beq_iff_eq]
  exact andNot_is ha hb
theorem fullI_val (n : Int) : impl_FullSet.f n = some (fullV n) := by
  unfold impl_FullSet.f fullV
  rw [within_val, Option.bind_some]
  by_cases h : 0 ≤ n ∧ n ≤ 8
  · rw [if_pos h, if_pos (decide_eq_true h), if_pos h.1, upper_val n h.1 h.2]
  · rw [if_neg h, if_neg (by simpa using h)]
theorem fullN {m : Nat} (h : m ≤ 8) : fullV (m : Int) = ((full m : Nat) : Int) := fullV_nat h
theorem uncast (R : List Nat) : (cast R).map Int.toNat = R := by
  unfold cast
  rw [List.map_map]
  conv => rhs; rw [← List.map_id R]
  exact List.map_congr_left fun x _ => by simp
theorem full_256 {m : Nat} (h : m ≤ 8) : full m < 256 := lt_256 h (full_lt m)
theorem shr_nat (a e : Nat) (he : e ≤ 64) : shr .i64 (a : Int) (e : Int) = ((a / 2 ^ e : Nat) : Int) := by
  unfold shr
  rw [Int.toNat_natCast, show (IntKind.i64).bits = 64 from rfl, Nat.min_eq_left he]
  simp
theorem bit_val (a e : Nat) (ha : a < 2 ^ 63) (he : e ≤ 64) : (Go.bits .and .i64 (shr .i64 (a : Int) (e : Int)) 1 == 1) = a.testBit e := by
  rw [shr_nat a e he]
  have h1 : a / 2 ^ e < 2 ^ 63 := Nat.lt_of_le_of_lt (Nat.div_le_self _ _) ha
  have h2 := and_nat h1 (show 1 < 2 ^ 63 by decide)
  rw [show ((1 : Nat) : Int) = 1 from rfl] at h2
  rw [h2, Nat.and_one_is_mod, Nat.testBit_eq_decide_div_mod_eq, Bool.eq_iff_iff, beq_iff_eq, decide_eq_true_iff]
  omega
def hasV (s e : Int) : Bool := isAny s && (decide (0 ≤ e ∧ e ≤ 7) && s.toNat.testBit e.toNat)
theorem wrapU_small (e : Int) (h0 : 0 ≤ e) (h1 : e ≤ 64) : IntKind.u64.wrap e = e := by
  simp [IntKind.wrap, IntKind.bits, IntKind.signed]
  omega
theorem l2Has_val (a e : Nat) (ha : a < 2 ^ 63) (he : e ≤ 64) : spec_l2Has.f (a : Int) (e : Int) = some (a.testBit e) := by
  unfold spec_l2Has.f
  rw [wrapU_small _ (by omega) (by omega), if_pos (by omega), bit_val a e ha he]
theorem hasI_val (s e : Int) : impl_HasElement.f s e = some (hasV s e) := by
  unfold impl_HasElement.f hasV
  rw [any_val, Option.bind_some]
  cases hs : isAny s with
  | false => rfl
  | true =>
    obtain ⟨a, ha, rfl⟩ := isAny_nat hs
    rw [if_pos rfl, within_val, Option.bind_some]
    by_cases he : 0 ≤ e ∧ e ≤ 7
    · obtain ⟨n, rfl⟩ : ∃ n : Nat, e = (n : Int) := ⟨e.toNat, by omega⟩
      rw [if_pos (decide_eq_true he), if_pos he.1, bit_val a n (by omega) (by omega), decide_eq_true he]
      simp
    · rw [if_neg (by simpa using he), decide_eq_false he]
      rfl
def elemsI (s : Nat) : List Int := ((List.range 8).filter fun (e : Nat) => s.testBit e).map fun (e : Nat) => (e : Int)
def elemsV (s : Int) : List Int := if isAny s then elemsI s.toNat else []
theorem elemsV_eq (s : Int) : elemsV s = ((List.range 8).filter fun (e : Nat) => hasV s (e : Int)).map fun (e : Nat) => (e : Int) := by
  unfold elemsV elemsI hasV
  cases isAny s with
  | false => simp
  | true =>
    rw [if_pos rfl]
    refine congrArg _ (List.filter_congr ?_)
    intro e he
    have := List.mem_range.1 he
    rw [Bool.true_and, decide_eq_true (show 0 ≤ (e : Int) ∧ (e : Int) ≤ 7 by omega), Bool.true_and, Int.toNat_natCast]
theorem elems_gen (g : Nat → List Int → Int → Option (List Int)) (s : Int)
    (hg : ∀ k (out : List Int) (i : Nat), out.length ≤ 8 → g (k + 1) out (i : Int) = if (i : Int) < 8 then (if hasV s (i : Int) = true then g k (out ++ [(i : Int)]) ((i + 1 : Nat) : Int) else g k out ((i + 1 : Nat) : Int)) else some out) :
    ∀ (d i : Nat), i + d = 8 → Ev (fun k => g k (((List.range i).filter fun (e : Nat) => hasV s (e : Int)).map fun (e : Nat) => (e : Int)) (i : Int)) (elemsV s) := by
  intro d
  have hlen : ∀ i, i ≤ 8 → (((List.range i).filter fun (e : Nat) => hasV s (e : Int)).map fun (e : Nat) => (e : Int)).length ≤ 8 := by
    intro i hi
    rw [List.length_map]
    have := List.length_filter_le (fun (e : Nat) => hasV s (e : Int)) (List.range i)
    rw [List.length_range] at this
    omega
  induction d with
  | zero =>
    intro i hi
    obtain rfl : i = 8 := by omega
    refine Ev.step (f := fun _ => some (elemsV s)) (fun k => ?_) (Ev.now _)
    rw [hg _ _ _ (hlen 8 (by omega)), if_neg (by decide), elemsV_eq]
  | succ d ih =>
    intro i hi
    refine Ev.step (fun k => ?_) (ih (i + 1) (by omega))
    rw [hg _ _ _ (hlen i (by omega)), if_pos (by omega), List.range_succ, List.filter_append, List.map_append]
    cases h : hasV s (i : Int) with
    | true => rw [if_pos rfl]; simp [h]
    | false => rw [if_neg (by decide)]; simp [h]
theorem elemsI_val (s : Int) : Ev (fun k => impl_ElementsOf.f k s) (elemsV s) := by
  unfold impl_ElementsOf.f
  refine elems_gen (fun k out i => impl_ElementsOf.l0 k s out i) s (fun k out i ho => ?_) 8 0 rfl
  simp only [impl_ElementsOf.l0]
  rw [hasI_val, Option.bind_some]
  by_cases hi : (i : Int) < 8
  · rw [if_pos hi, if_pos hi, if_pos (show out.length < 17592186044416 by omega), show wrap64 ((i : Int) + 1) = ((i + 1 : Nat) : Int) from by unfold wrap64; omega]
  · rw [if_neg hi, if_neg hi]
theorem elemsV_range (s : Int) : ∀ e ∈ elemsV s, 0 ≤ e ∧ e ≤ 7 := by
  intro e he
  rw [elemsV_eq] at he
  obtain ⟨n, hn, rfl⟩ := List.mem_map.1 he
  have := List.mem_range.1 (List.mem_filter.1 hn).1
  omega
theorem elemsV_length (s : Int) : (elemsV s).length ≤ 8 := by
  rw [elemsV_eq, List.length_map]
  have := List.length_filter_le (fun (e : Nat) => hasV s (e : Int)) (List.range 8)
  rw [List.length_range] at this
  omega
theorem bit01 (a e : Nat) (ha : a < 2 ^ 63) (he : e ≤ 64) : Go.bits .and .i64 (shr .i64 (a : Int) (e : Int)) 1 = if a.testBit e = true then 1 else 0 := by
  have h := bit_val a e ha he
  cases hb : a.testBit e with
  | true => rw [hb, beq_iff_eq] at h; rw [h]; rfl
  | false =>
    rw [shr_nat a e he]
    have h1 : a / 2 ^ e < 2 ^ 63 := Nat.lt_of_le_of_lt (Nat.div_le_self _ _) ha
    have h2 := and_nat h1 (show 1 < 2 ^ 63 by decide)
    rw [show ((1 : Nat) : Int) = 1 from rfl] at h2
    rw [Nat.testBit_eq_decide_div_mod_eq, decide_eq_false_iff_not] at hb
    rw [h2, Nat.and_one_is_mod, show a / 2 ^ e % 2 = 0 from by omega]
    rfl
theorem or_shl {a e : Nat} {b : Bool} (ha : a < 256) (he : e ≤ 7) : Go.bits .or .i64 (a : Int) (shl .i64 (if b = true then 1 else 0) (e : Int)) = ((if b = true then a ||| 2 ^ e else a : Nat) : Int) := by
  cases b with
  | true => rw [if_pos rfl, if_pos rfl]; exact or_bit ha he
  | false =>
    rw [if_neg (by decide), if_neg (by decide), shl_zero e (by omega)]
    have := or_nat (a := a) (b := 0) (by omega) (by decide)
    rw [Nat.or_zero] at this
    exact this
theorem hasS_val (s e : Int) : spec_HasElement.f s e = some (hasV s e) := by
  unfold spec_HasElement.f hasV
  rw [specSet_val, isSetB_8, Option.bind_some]
  cases hs : isAny s with
  | false => rfl
  | true =>
    obtain ⟨a, ha, rfl⟩ := isAny_nat hs
    rw [if_pos rfl, l1In_val, Option.bind_some]
    by_cases he : 0 ≤ e ∧ e ≤ 7
    · obtain ⟨n, rfl⟩ : ∃ n : Nat, e = (n : Int) := ⟨e.toNat, by omega⟩
      rw [if_pos (decide_eq_true he), l2Has_val a n (by omega) (by omega), decide_eq_true he]
      simp
    · rw [if_neg (by simpa using he), decide_eq_false he]
      rfl
theorem elemsS_val (s : Int) : Ev (fun k => spec_ElementsOf.f k s) (elemsV s) := by
  unfold spec_ElementsOf.f
  refine elems_gen (fun k out i => spec_ElementsOf.l0 k s out i) s (fun k out i ho => ?_) 8 0 rfl
  simp only [spec_ElementsOf.l0]
  rw [hasS_val, Option.bind_some]
  by_cases hi : (i : Int) < 8
  · rw [if_pos hi, if_pos hi, if_pos (show out.length < 17592186044416 by omega), show wrap64 ((i : Int) + 1) = ((i + 1 : Nat) : Int) from by unfold wrap64; omega]
  · rw [if_neg hi, if_neg hi]
theorem small_len : ∀ n : Nat, n ≤ 1048576 → n < 8796093022208 := fun n _ => by omega
theorem areRules_loop (n : Int) : ∀ (d : Nat) (l : List IR), 41 ≤ l.length + d → l.length ≤ 41 → ∃ l' : List IR, Ev (fun k => spec_DrawAreRules.l0 k n l) (n, l') ∧ l'.length ≤ 41 := by
  intro d
  induction d with
  | zero =>
    intro l hl h
    refine ⟨l, Ev.step (f := fun _ => some (n, l)) (fun k => ?_) (Ev.now _), h⟩
    simp only [spec_DrawAreRules.l0]
    rw [if_neg (by omega)]
  | succ d ih =>
    intro l hl h
    by_cases hlt : l.length < 41
    · obtain ⟨l', hv, h'⟩ := ih (l ++ [⟨0, 0⟩]) (by rw [List.length_append, List.length_singleton]; omega) (by rw [List.length_append, List.length_singleton]; omega)
      refine ⟨l', Ev.step (fun k => ?_) hv, h'⟩
      simp only [spec_DrawAreRules.l0]
      rw [if_pos (by omega), if_pos (small_len _ (by omega))]
    · refine ⟨l, Ev.step (f := fun _ => some (n, l)) (fun k => ?_) (Ev.now _), h⟩
      simp only [spec_DrawAreRules.l0]
      rw [if_neg (by omega)]
theorem areRules_ex (b : List Int) (hb : b.length ≤ 1048576) : ∃ v : Int × List IR, Ev (fun k => spec_DrawAreRules.f k b) v ∧ v.2.length ≤ 41 := by
  obtain ⟨h1, e1⟩ := new_ex b hb
  obtain ⟨n, i2, h2, e2, _, _, k2⟩ := below_ex b hb 0 h1 (by decide) 6
  obtain ⟨⟨q, i3, h3⟩, e3, hq, k3⟩ := bent9_ex b hb i2 h2 k2 n
  dsimp only at hq k3
  obtain ⟨y, i4, h4, e4, _, _, k4⟩ := below_ex b hb i3 h3 k3 12
  have go : ∀ w, Ev (fun k => if y = 0 then ((spec_l1PickInt.f b i4 h4 (([(-1), 7, 1] : List Int))).bind fun bt => (some (bt.1, q))) else (if y = 1 then (spec_DrawAreRules.l0 k n q) else (some (n, q)))) w → Ev (fun k => spec_DrawAreRules.f k b) w := by
    intro w hw
    unfold spec_DrawAreRules.f
    refine Ev.bind e1 ?_
    dsimp only
    rw [e2]
    simp only [Option.bind_some]
    refine Ev.bind e3 ?_
    dsimp only
    rw [e4]
    exact hw
  by_cases c0 : y = 0
  · obtain ⟨z, i5, h5, e5, _, _⟩ := pick_ex b hb i4 h4 k4 [(-1), 7, 1] (by decide)
    exact ⟨(z, q), go _ (Ev.congr (fun k => by rw [if_pos c0, e5]; rfl) (Ev.now _)), by dsimp only; omega⟩
  · by_cases c1 : y = 1
    · obtain ⟨l', hv, h'⟩ := areRules_loop n 41 q (by omega) (by omega)
      exact ⟨(n, l'), go _ (Ev.congr (fun k => by rw [if_neg c0, if_pos c1]) hv), h'⟩
    · exact ⟨(n, q), go _ (Ev.congr (fun k => by rw [if_neg c0, if_neg c1]) (Ev.now _)), by dsimp only; omega⟩
theorem anyR_nat {r : IR} (h : anyR r = true) : r.f0 = ((toP r).1 : Int) ∧ r.f1 = ((toP r).2 : Int) ∧ (toP r).1 < 256 ∧ (toP r).2 < 256 := by
  unfold anyR at h
  rw [Bool.and_eq_true] at h
  obtain ⟨a, ha, e⟩ := isAny_nat h.1
  obtain ⟨b, hb, e'⟩ := isAny_nat h.2
  unfold toP
  simp only [e, e', Int.toNat_natCast]
  exact ⟨trivial, trivial, ha, hb⟩
theorem toR_small {l : List IR} (h : l.all anyR = true) : small (toR l) := by
  intro r hr
  obtain ⟨x, hx, rfl⟩ := List.mem_map.1 hr
  have := anyR_nat (List.all_eq_true.1 h x hx)
  exact this.2.2
theorem inSet_val {a b : Nat} (ha : a < 256) (hb : b < 256) : impl_inSet.f (a : Int) (b : Int) = some (sub a b) := by
  unfold impl_inSet.f
  rw [andNot_nat (by omega) (by omega)]
  congr 1
  rw [Bool.eq_iff_iff, beq_iff_eq]
  rw [← diff_eq_zero]
  exact_mod_cast Iff.rfl
theorem and_eq_sub {a b : Nat} (ha : a < 256) (hb : b < 256) : (Go.bits .and .i64 (a : Int) (b : Int) = (a : Int)) ↔ sub a b = true := by
  rw [and_nat (by omega) (by omega)]
  unfold sub
  rw [beq_iff_eq]
  exact_mod_cast Iff.rfl
theorem or256 {a b : Nat} (ha : a < 256) (hb : b < 256) : a ||| b < 256 := Nat.or_lt_two_pow (n := 8) ha hb
theorem sets_loop (l : List IR) (hl : l.length ≤ 9223372036854775807) : ∀ (rest : List IR) (i : Nat), l.drop i = rest → Ev (fun k => spec_l9Sets.l0 k l (i : Int)) (rest.all anyR) := by
  intro rest
  induction rest with
  | nil =>
    intro i h
    have := drop_nil h
    refine Ev.step (f := fun _ => some true) (fun k => ?_) (Ev.now _)
    simp only [spec_l9Sets.l0]
    rw [if_neg (by omega)]
  | cons x rest ih =>
    intro i h
    obtain ⟨hi, hx, hr⟩ := drop_cons (d := z48) h
    rw [List.all_cons]
    cases e : anyR x with
    | true =>
      refine Ev.step (f := fun k => spec_l9Sets.l0 k l ((i + 1 : Nat) : Int)) (fun k => ?_) (ih (i + 1) hr)
      simp only [spec_l9Sets.l0]
      rw [if_pos (by omega), if_pos (by omega), rdR, hx, rule_val, Option.bind_some, isSetB_8, isSetB_8, show (isAny x.f0 && isAny x.f1) = true from e, if_pos rfl, wrap_succ hi hl]
    | false =>
      refine Ev.step (f := fun _ => some false) (fun k => ?_) (Ev.now false)
      simp only [spec_l9Sets.l0]
      rw [if_pos (by omega), if_pos (by omega), rdR, hx, rule_val, Option.bind_some, isSetB_8, isSetB_8, show (isAny x.f0 && isAny x.f1) = false from e, if_neg (by decide)]
theorem sets_val (l : List IR) (hl : l.length ≤ 9223372036854775807) : Ev (fun k => spec_l9Sets.f k l) (l.all anyR) := sets_loop l hl l 0 rfl
theorem sameR_loop (l : List IR) (hl : l.length ≤ 9223372036854775807) : ∀ (rest : List IR) (i : Nat), l.drop i = rest → Ev (fun k => laws_sameRules.l0 k l l (i : Int)) true := by
  intro rest
  induction rest with
  | nil =>
    intro i h
    have := drop_nil h
    refine Ev.step (f := fun _ => some true) (fun k => ?_) (Ev.now _)
    simp only [laws_sameRules.l0]
    rw [if_neg (by omega)]
  | cons x rest ih =>
    intro i h
    obtain ⟨hi, hx, hd⟩ := drop_cons (d := z48) h
    refine Ev.step (fun k => ?_) (ih (i + 1) hd)
    simp only [laws_sameRules.l0]
    rw [if_pos (by omega), if_pos (by omega), if_pos (by omega), wrap_succ hi hl]
    simp
theorem sameR_self (l : List IR) (hl : l.length ≤ 9223372036854775807) : Ev (fun k => laws_sameRules.f k l l) true := by
  unfold laws_sameRules.f
  refine Ev.congr (fun k => by rw [if_pos rfl]) ?_
  exact sameR_loop l hl l 0 rfl
theorem pow2_256 {n : Nat} (hn : n ≤ 8) : 2 ^ n ≤ 256 := show 2 ^ n ≤ 2 ^ 8 from Nat.pow_le_pow_right (by decide) hn
theorem clo_mono {R : Rules} (hR : small R) {s t : Nat} (hs : s < 256) (ht : t < 256) (h : sub s t = true) : sub (clo R s) (clo R t) = true := by
  obtain ⟨_, h1, h2, _⟩ := clo_spec hR ht
  exact (clo_spec hR hs).2.2.2 _ (sub_trans h h1) h2
theorem clo_idem {R : Rules} (hR : small R) {s : Nat} (hs : s < 256) : clo R (clo R s) = clo R s := by
  obtain ⟨h0, _, h2, _⟩ := clo_spec hR hs
  exact (clo_fix hR h0).2 h2
def within (m : Nat) (R : Rules) : Prop := ∀ r ∈ R, r.1 < 2 ^ m ∧ r.2 < 2 ^ m
theorem within_small {m : Nat} (hm : m ≤ 8) {R : Rules} (h : within m R) : small R := fun r hr => by
  have := pow2_256 hm
  have := h r hr
  omega
theorem clo_in {m : Nat} (hm : m ≤ 8) {R : Rules} (h : within m R) {s : Nat} (hs : s < 2 ^ m) : clo R s < 2 ^ m := by
  have h256 := pow2_256 hm
  have hf : full m < 256 := Nat.lt_of_lt_of_le (full_lt m) h256
  have := (clo_spec (within_small hm h) (s := s) (by omega)).2.2.2 (full m) (sub_full hs) fun r hr _ => sub_full (h r hr).2
  exact Nat.lt_of_le_of_lt (sub_le this) (full_lt m)
end Go.Proofs.YtafnamchckehmaaGreatDoor.Pu
namespace Go.Proofs.YtafnamchckehmaaGreatDoor.Op
open Go.RowKit Go.Proofs.YtafnamchckehmaaGreatDoorW.PrintWords
open Go.Deep
def Opens {α : Type} (P : Program) (t : TypeId) (d : Kd α) (wf : α → Prop) : Prop :=
  ∀ {H : Type} {enc : TypeId × Value → H} {w : World} {base : Nat} {spare : Nat → Bool} {held : Bool} {fuel : Nat} {cs : List Value} {x : DataW H × List MemPlace},
    DataW.trod enc P w base spare held fuel t cs = some x → ∃ v : α, d.K w v cs ∧ wf v
theorem Opens.int {P : Program} {t : TypeId} {k : IntKind} (ht : P.underlying t = some (.int k)) : Opens P t (Kd.int k) (fun n => (Lit.int k n).wf = true) := by
  intro H enc w base spare held fuel cs x h
  obtain ⟨n, rfl, _, hw⟩ := DataW.trod_int ht h
  exact ⟨n, rfl, hw⟩
theorem Opens.slice {α : Type} [Inhabited α] {P : Program} {t e : TypeId} {d : Kd α} {wf : α → Prop} (ht : P.underlying t = some (.slice e)) (hc : P.cellsOf e = d.sz) (h : Opens P e d wf) : Opens P t (Kd.slice e d) (fun xs => ∀ x ∈ xs, wf x) := by
  intro H enc w base spare held fuel cs x hx
  rcases open_slice ht hx with ⟨rfl, _⟩ | ⟨a, len, cap, m, n, D, Pl, rfl, hb, hl, hm, hmm, rfl, hel⟩
  · exact ⟨[], ⟨none, 0, rfl, Nat.le_refl _, Kd.C_nil d w⟩, by simp⟩
  · have hlm : len ≤ m := by rw [hmm]; split <;> omega
    obtain ⟨f, hf⟩ := choose_lt (α := α) (n := len) (p := fun i v => ∃ cs', w.cells? base (a.add (i * P.cellsOf e)) (P.cellsOf e) = some cs' ∧ d.K w v cs' ∧ wf v) (fun i hi => by
      obtain ⟨cs', h1, h2⟩ := hel i (by omega)
      obtain ⟨v, hk, hw⟩ := h h2
      exact ⟨v, cs', h1, hk, hw⟩)
    refine ⟨(List.range len).map f, ⟨some a, cap, by simp, by simpa using hl, by simp, by simp only [maxLen] at hm; simp; omega, fun _ => ⟨a, rfl, fun j p hj => ?_⟩⟩, ?_⟩
    · have hjl : j < len := by
        have := (List.getElem?_eq_some_iff.1 hj).1
        simpa using this
      have hp : p = f j := by simpa [hjl] using hj.symm
      subst hp
      obtain ⟨cs', h1, hk, _⟩ := hf j hjl
      obtain ⟨_, hlen, hcell⟩ := World.cells?_some h1
      refine ⟨cs', by rw [hlen, hc], hk, fun i u hu => ?_⟩
      have hi : i < cs'.length := (List.getElem?_eq_some_iff.1 hu).1
      have h2 := hcell i (by omega)
      rw [Go.Deep.add_add] at h2
      rw [← hc, h2, hu]
    · intro y hy
      obtain ⟨j, hj, rfl⟩ := List.mem_map.1 hy
      obtain ⟨_, _, _, hw⟩ := hf j (List.mem_range.1 hj)
      exact hw
end Go.Proofs.YtafnamchckehmaaGreatDoor.Op
