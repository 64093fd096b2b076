/- Plain laws on sets as numbers, on rules and their closures. No condition. -/
import Derived.Test.YtemhlblajnlogaaWMore
namespace Go.Proofs.Ytemhlblajnlogaa.Pu
/-- all elements of a are in b -/
def sub (a b : Nat) : Bool := a &&& b == a
theorem sub_iff {a b : Nat} : sub a b = true ↔ ∀ i, a.testBit i = true → b.testBit i = true := by
  unfold sub
  rw [beq_iff_eq]
  constructor
  · intro h i hi
    rw [← h, Nat.testBit_and] at hi
    exact (Bool.and_eq_true_iff.1 hi).2
  · intro h
    apply Nat.eq_of_testBit_eq
    intro i
    rw [Nat.testBit_and]
    cases ha : a.testBit i with
    | false => rfl
    | true => rw [h i ha]; rfl
theorem sub_refl (a : Nat) : sub a a = true := by simp [sub]
theorem sub_trans {a b c : Nat} (h : sub a b = true) (k : sub b c = true) : sub a c = true :=
  sub_iff.2 fun i hi => sub_iff.1 k i (sub_iff.1 h i hi)
theorem sub_antisymm {a b : Nat} (h : sub a b = true) (k : sub b a = true) : a = b := by
  apply Nat.eq_of_testBit_eq
  intro i
  rw [Bool.eq_iff_iff]
  exact ⟨sub_iff.1 h i, sub_iff.1 k i⟩
theorem sub_or_left (a b : Nat) : sub a (a ||| b) = true := sub_iff.2 fun i hi => by rw [Nat.testBit_or, hi]; rfl
theorem sub_or_right (a b : Nat) : sub b (a ||| b) = true := sub_iff.2 fun i hi => by rw [Nat.testBit_or, hi]; simp
theorem or_sub {a b c : Nat} (h : sub a c = true) (k : sub b c = true) : sub (a ||| b) c = true := sub_iff.2 fun i hi => by
  rw [Nat.testBit_or, Bool.or_eq_true] at hi
  rcases hi with hi | hi
  · exact sub_iff.1 h i hi
  · exact sub_iff.1 k i hi
theorem and_sub_left (a b : Nat) : sub (a &&& b) a = true := sub_iff.2 fun i hi => by rw [Nat.testBit_and, Bool.and_eq_true] at hi; exact hi.1
theorem and_sub_right (a b : Nat) : sub (a &&& b) b = true := sub_iff.2 fun i hi => by rw [Nat.testBit_and, Bool.and_eq_true] at hi; exact hi.2
theorem sub_and {a b c : Nat} (h : sub c a = true) (k : sub c b = true) : sub c (a &&& b) = true := sub_iff.2 fun i hi => by rw [Nat.testBit_and, sub_iff.1 h i hi, sub_iff.1 k i hi]; rfl
theorem sub_le {a b : Nat} (h : sub a b = true) : a ≤ b := by
  have : a &&& b = a := by simpa [sub] using h
  rw [← this]; exact Nat.and_le_right
theorem sub_zero (a : Nat) : sub 0 a = true := by simp [sub]
/-- the elements of a that are not in b -/
def diff (a b : Nat) : Nat := a ^^^ (a &&& b)
theorem testBit_diff (a b i : Nat) : (diff a b).testBit i = (a.testBit i && !b.testBit i) := by
  unfold diff
  rw [Nat.testBit_xor, Nat.testBit_and]
  cases a.testBit i <;> cases b.testBit i <;> rfl
theorem diff_eq_zero {a b : Nat} : diff a b = 0 ↔ sub a b = true := by
  constructor
  · intro h
    refine sub_iff.2 fun i hi => ?_
    have := testBit_diff a b i
    rw [h, hi] at this
    simpa using this
  · intro h
    apply Nat.eq_of_testBit_eq
    intro i
    rw [testBit_diff, Nat.zero_testBit]
    cases ha : a.testBit i with
    | false => rfl
    | true => rw [sub_iff.1 h i ha]; rfl
/-! rules: pairs of sets -/
abbrev Rules := List (Nat × Nat)
/-- one step: the set with the conclusions of all rules whose premises it has -/
def step (R : Rules) (s : Nat) : Nat := R.foldl (fun o r => if sub r.1 s then o ||| r.2 else o) s
def resp (R : Rules) (s : Nat) : Prop := ∀ r ∈ R, sub r.1 s = true → sub r.2 s = true
theorem fold_spec (R : Rules) (s : Nat) : ∀ o, sub o (R.foldl (fun o r => if sub r.1 s then o ||| r.2 else o) o) = true ∧
    (∀ r ∈ R, sub r.1 s = true → sub r.2 (R.foldl (fun o r => if sub r.1 s then o ||| r.2 else o) o) = true) ∧
    (∀ t, sub o t = true → (∀ r ∈ R, sub r.1 s = true → sub r.2 t = true) → sub (R.foldl (fun o r => if sub r.1 s then o ||| r.2 else o) o) t = true) := by
  induction R with
  | nil => intro o; exact ⟨sub_refl _, by simp, fun t h _ => h⟩
  | cons r R ih =>
    intro o
    rw [List.foldl_cons]
    obtain ⟨h1, h2, h3⟩ := ih (if sub r.1 s then o ||| r.2 else o)
    refine ⟨?_, ?_, ?_⟩
    · refine sub_trans ?_ h1
      split
      · exact sub_or_left _ _
      · exact sub_refl _
    · intro q hq hs
      rcases List.mem_cons.1 hq with rfl | hq
      · refine sub_trans ?_ h1
        rw [if_pos hs]; exact sub_or_right _ _
      · exact h2 q hq hs
    · intro t ht hr
      refine h3 t ?_ (fun q hq => hr q (List.mem_cons_of_mem _ hq))
      split
      · rename_i h; exact or_sub ht (hr r List.mem_cons_self h)
      · exact ht
theorem sub_step (R : Rules) (s : Nat) : sub s (step R s) = true := (fold_spec R s s).1
theorem step_le_of {R : Rules} {s t : Nat} (h : sub s t = true) (hr : resp R t) : sub (step R s) t = true :=
  (fold_spec R s s).2.2 t h fun r hr' hs => hr r hr' (sub_trans hs h)
theorem step_fix {R : Rules} {s : Nat} : step R s = s ↔ resp R s := by
  constructor
  · intro h r hr hs
    have := (fold_spec R s s).2.1 r hr hs
    rw [show R.foldl (fun o r => if sub r.1 s then o ||| r.2 else o) s = step R s from rfl, h] at this
    exact this
  · intro h
    exact sub_antisymm (step_le_of (sub_refl s) h) (sub_step R s)
def iter (R : Rules) : Nat → Nat → Nat
  | 0, s => s
  | k + 1, s => iter R k (step R s)
/-- the least superset that respects the rules (all sets below 256) -/
def clo (R : Rules) (s : Nat) : Nat := iter R 256 s
def small (R : Rules) : Prop := ∀ r ∈ R, r.1 < 256 ∧ r.2 < 256
theorem step_lt {R : Rules} {s : Nat} (hR : small R) (hs : s < 256) : step R s < 256 := by
  have h := (fold_spec R s s).2.2 255 (sub_iff.2 fun i hi => ?_) (fun r hr _ => sub_iff.2 fun i hi => ?_)
  · have := sub_le h; unfold step; omega
  all_goals
    have : i < 8 := by
      rcases Nat.lt_or_ge i 8 with h | h
      · exact h
      · exfalso
        rw [Nat.testBit_lt_two_pow] at hi
        · cases hi
        · have h8 : 2 ^ 8 ≤ 2 ^ i := Nat.pow_le_pow_right (by decide) h
          first | omega | (have := (hR r hr).2; omega)
    rw [show (255 : Nat) = 2 ^ 8 - 1 from rfl, Nat.testBit_two_pow_sub_one]
    simpa using this
theorem iter_spec {R : Rules} (hR : small R) : ∀ k s, s < 256 → 256 ≤ s + k → (iter R k s < 256 ∧ sub s (iter R k s) = true ∧ resp R (iter R k s) ∧ ∀ t, sub s t = true → resp R t → sub (iter R k s) t = true) := by
  intro k
  induction k with
  | zero => intro s hs h; omega
  | succ k ih =>
    intro s hs h
    rw [iter]
    by_cases e : step R s = s
    · rw [e]
      have : ∀ k, iter R k s = s := by
        intro k
        induction k with
        | zero => rfl
        | succ k ih => rw [iter, e, ih]
      rw [this]
      exact ⟨hs, sub_refl s, step_fix.1 e, fun t ht _ => ht⟩
    · have hlt : s < step R s := by have := sub_le (sub_step R s); omega
      obtain ⟨h1, h2, h3, h4⟩ := ih (step R s) (step_lt hR hs) (by omega)
      exact ⟨h1, sub_trans (sub_step R s) h2, h3, fun t ht hr => h4 t (step_le_of ht hr) hr⟩
theorem clo_spec {R : Rules} (hR : small R) {s : Nat} (hs : s < 256) : clo R s < 256 ∧ sub s (clo R s) = true ∧ resp R (clo R s) ∧ ∀ t, sub s t = true → resp R t → sub (clo R s) t = true :=
  iter_spec hR 256 s hs (by omega)
theorem clo_unique {R : Rules} (hR : small R) {s r : Nat} (hs : s < 256) (h1 : sub s r = true) (h2 : resp R r) (h3 : ∀ t, sub s t = true → resp R t → sub r t = true) : r = clo R s :=
  sub_antisymm (h3 _ (clo_spec hR hs).2.1 (clo_spec hR hs).2.2.1) ((clo_spec hR hs).2.2.2 r h1 h2)
/-- the number whose bit i is f i, for i below k -/
def ofBits (f : Nat → Bool) : Nat → Nat
  | 0 => 0
  | k + 1 => ofBits f k ||| (if f k then 2 ^ k else 0)
theorem ofBits_lt (f : Nat → Bool) : ∀ k, ofBits f k < 2 ^ k
  | 0 => by simp [ofBits]
  | k + 1 => by
    have h := ofBits_lt f k
    have h2 : 2 ^ k < 2 ^ (k + 1) := Nat.pow_lt_pow_right (by decide) (by omega)
    unfold ofBits
    refine Nat.or_lt_two_pow (Nat.lt_trans h h2) ?_
    split
    · exact h2
    · exact Nat.two_pow_pos _
theorem testBit_ofBits (f : Nat → Bool) (i : Nat) : ∀ k, (ofBits f k).testBit i = (decide (i < k) && f i)
  | 0 => by simp [ofBits]
  | k + 1 => by
    unfold ofBits
    rw [Nat.testBit_or, testBit_ofBits f i k]
    by_cases h : i < k
    · have hk : ¬ (k = i) := by omega
      have : (if f k = true then 2 ^ k else 0 : Nat).testBit i = false := by
        split
        · rw [Nat.testBit_two_pow]; simp [hk]
        · simp
      simp [this, h, show i < k + 1 from by omega]
    · by_cases e : i = k
      · subst e
        cases hf : f i <;> simp
      · have : (if f k = true then 2 ^ k else 0 : Nat).testBit i = false := by
          split
          · rw [Nat.testBit_two_pow]; simp [show ¬ k = i from fun h => e h.symm]
          · simp
        simp [this, h, show ¬ i < k + 1 from by omega]
theorem lt_two_pow_iff {a k : Nat} : a < 2 ^ k ↔ ∀ i, k ≤ i → a.testBit i = false := by
  constructor
  · intro h i hi
    exact Nat.testBit_lt_two_pow (Nat.lt_of_lt_of_le h (Nat.pow_le_pow_right (by decide) hi))
  · intro h
    exact Nat.lt_pow_two_of_testBit a h
theorem eq_ofBits {a k : Nat} {f : Nat → Bool} (ha : a < 2 ^ k) (h : ∀ i, i < k → a.testBit i = f i) : a = ofBits f k := by
  apply Nat.eq_of_testBit_eq
  intro i
  rw [testBit_ofBits]
  by_cases hi : i < k
  · simp [hi, h i hi]
  · simp [hi, lt_two_pow_iff.1 ha i (by omega)]
theorem ofBits_congr {f g : Nat → Bool} {k : Nat} (h : ∀ i, i < k → f i = g i) : ofBits f k = ofBits g k :=
  eq_ofBits (ofBits_lt f k) fun i hi => by rw [testBit_ofBits, h i hi]; simp [hi]
/-- i, i + 1, .. , n - 1 -/
def foldIdx {σ : Type} (f : Nat → σ → σ) (i n : Nat) (s : σ) : σ := (List.range' i (n - i)).foldl (fun s j => f j s) s
theorem foldIdx_end {σ : Type} (f : Nat → σ → σ) {i n : Nat} (h : n ≤ i) (s : σ) : foldIdx f i n s = s := by
  unfold foldIdx; rw [Nat.sub_eq_zero_of_le h]; rfl
theorem foldIdx_step {σ : Type} (f : Nat → σ → σ) {i n : Nat} (h : i < n) (s : σ) : foldIdx f i n s = foldIdx f (i + 1) n (f i s) := by
  unfold foldIdx
  obtain ⟨d, rfl⟩ : ∃ d, n = i + 1 + d := ⟨n - (i + 1), by omega⟩
  rw [show i + 1 + d - i = d + 1 from by omega, show i + 1 + d - (i + 1) = d from by omega, List.range'_succ, List.foldl_cons]
theorem foldIdx_last {σ : Type} (f : Nat → σ → σ) {i n : Nat} (h : i ≤ n) (s : σ) : foldIdx f i (n + 1) s = f n (foldIdx f i n s) := by
  unfold foldIdx
  rw [show n + 1 - i = (n - i) + 1 from by omega, List.range'_concat, List.foldl_append]
  simp only [List.foldl_cons, List.foldl_nil]
  congr 1
  omega
theorem clo_of_between {R : Rules} (hR : small R) {s u : Nat} (hs : s < 256) (hu : u < 256) (h1 : sub s u = true) (h2 : ∀ t, sub s t = true → resp R t → sub u t = true) : clo R u = clo R s := by
  obtain ⟨_, b, c, d⟩ := clo_spec hR hu
  exact clo_unique hR hs (sub_trans h1 b) c fun t ht hr => d t (h2 t ht hr) hr
theorem clo_fix {R : Rules} (hR : small R) {s : Nat} (hs : s < 256) : clo R s = s ↔ resp R s := by
  constructor
  · intro h; have := (clo_spec hR hs).2.2.1; rwa [h] at this
  · intro h; exact (clo_unique hR hs (sub_refl s) h (fun t ht _ => ht)).symm
theorem clo_step {R : Rules} (hR : small R) {s : Nat} (hs : s < 256) : clo R (step R s) = clo R s :=
  clo_of_between hR hs (step_lt hR hs) (sub_step R s) (fun _ ht hr => step_le_of ht hr)
/-- one sweep over the rules, the set growing as it goes -/
def sweep (R : Rules) (p : Nat × Bool) : Nat × Bool := R.foldl (fun p r => if sub r.1 p.1 && !sub r.2 p.1 then (p.1 ||| r.2, true) else p) p
theorem sweep_spec (R : Rules) : ∀ (p : Nat × Bool), sub p.1 (sweep R p).1 = true ∧ ((∀ r ∈ R, r.2 < 256) → p.1 < 256 → (sweep R p).1 < 256) ∧
    (∀ t, sub p.1 t = true → resp R t → sub (sweep R p).1 t = true) ∧
    ((sweep R p).2 = false → p.2 = false ∧ (sweep R p).1 = p.1 ∧ resp R p.1) ∧
    (p.2 = false → (sweep R p).2 = true → p.1 < (sweep R p).1) := by
  induction R with
  | nil => intro p; exact ⟨sub_refl _, fun _ h => h, fun t h _ => h, fun h => ⟨h, rfl, fun r hr => by simp at hr⟩, fun h h' => by rw [show sweep [] p = p from rfl, h] at h'; cases h'⟩
  | cons r R ih =>
    intro p
    rw [show sweep (r :: R) p = sweep R (if sub r.1 p.1 && !sub r.2 p.1 then (p.1 ||| r.2, true) else p) from rfl]
    by_cases hc : (sub r.1 p.1 && !sub r.2 p.1) = true
    · rw [if_pos hc]
      rw [Bool.and_eq_true] at hc
      obtain ⟨hc1, hc2⟩ := hc
      obtain ⟨a, b, c, d, e⟩ := ih (p.1 ||| r.2, true)
      have hlt : p.1 < p.1 ||| r.2 := by
        have h1 := sub_le (sub_or_left p.1 r.2)
        rcases Nat.lt_or_ge p.1 (p.1 ||| r.2) with h | h
        · exact h
        · have he : p.1 ||| r.2 = p.1 := Nat.le_antisymm h h1
          have := sub_or_right p.1 r.2
          rw [he] at this
          rw [this] at hc2; cases hc2
      refine ⟨sub_trans (sub_or_left _ _) a, fun h hp => b (fun q hq => h q (List.mem_cons_of_mem _ hq)) (Nat.or_lt_two_pow (n := 8) hp (h r List.mem_cons_self)), ?_, ?_, ?_⟩
      · intro t ht hr
        exact c t (or_sub ht (hr r List.mem_cons_self (sub_trans hc1 ht))) (fun q hq => hr q (List.mem_cons_of_mem _ hq))
      · intro h
        have := (d h).1
        cases this
      · intro _ _
        exact Nat.lt_of_lt_of_le hlt (sub_le a)
    · rw [if_neg hc]
      obtain ⟨a, b, c, d, e⟩ := ih p
      refine ⟨a, fun h hp => b (fun q hq => h q (List.mem_cons_of_mem _ hq)) hp, fun t ht hr => c t ht (fun q hq => hr q (List.mem_cons_of_mem _ hq)), ?_, e⟩
      intro h
      obtain ⟨d1, d2, d3⟩ := d h
      refine ⟨d1, d2, fun q hq hs => ?_⟩
      rcases List.mem_cons.1 hq with rfl | hq
      · rw [hs, Bool.true_and] at hc
        simpa using hc
      · exact d3 q hq hs
theorem diff_add : ∀ (a b : Nat), diff a b + (a &&& b) = a := by
  intro a
  induction a using Nat.strongRecOn with
  | _ a ih =>
    intro b
    unfold diff at *
    rcases Nat.eq_zero_or_pos a with h0 | h0
    · subst h0; simp
    · have h := ih (a / 2) (by omega) (b / 2)
      have e1 : (a &&& b) / 2 = a / 2 &&& b / 2 := Nat.and_div_two
      have e2 : (a ^^^ (a &&& b)) / 2 = a / 2 ^^^ (a &&& b) / 2 := Nat.xor_div_two
      rw [e1] at e2
      rw [← e2, ← e1] at h
      have m1 : (a &&& b) % 2 = 1 ↔ a % 2 = 1 ∧ b % 2 = 1 := Nat.and_mod_two_eq_one
      have m2 : (a ^^^ (a &&& b)) % 2 = 1 ↔ ¬ (a % 2 = 1 ↔ (a &&& b) % 2 = 1) := Nat.xor_mod_two_eq_one
      omega
theorem diff_eq_sub (a b : Nat) : diff a b = a - (a &&& b) := by have := diff_add a b; omega
end Go.Proofs.Ytemhlblajnlogaa.Pu
