/- Plain laws on contexts: extents, intents, closures. No condition. -/
import Derived.Test.YtemhlblajnlogaaPuSet
namespace Go.Proofs.Ytemhlblajnlogaa.Pu
/-! contexts: n attributes, rows: sets of attributes -/
def full (n : Nat) : Nat := 2 ^ n - 1
theorem testBit_full (n i : Nat) : (full n).testBit i = decide (i < n) := Nat.testBit_two_pow_sub_one ..
theorem full_lt (n : Nat) : full n < 2 ^ n := by unfold full; have := Nat.two_pow_pos n; omega
def row (rows : List Nat) (g : Nat) : Nat := rows.getD g 0
def col (rows : List Nat) (m : Nat) : Nat := ofBits (fun g => (row rows g).testBit m) rows.length
def ext (rows : List Nat) (a : Nat) : Nat := ofBits (fun g => sub a (row rows g)) rows.length
def int (n : Nat) (rows : List Nat) (o : Nat) : Nat := ofBits (fun m => (List.range rows.length).all fun g => !o.testBit g || (row rows g).testBit m) n
def cl (n : Nat) (rows : List Nat) (a : Nat) : Nat := int n rows (ext rows a)
theorem testBit_ext {rows : List Nat} {a g : Nat} : (ext rows a).testBit g = (decide (g < rows.length) && sub a (row rows g)) := testBit_ofBits ..
theorem testBit_int {n : Nat} {rows : List Nat} {o m : Nat} : (int n rows o).testBit m = true ↔ m < n ∧ ∀ g, g < rows.length → o.testBit g = true → (row rows g).testBit m = true := by
  unfold int
  rw [testBit_ofBits, Bool.and_eq_true, decide_eq_true_iff, List.all_eq_true]
  constructor
  · rintro ⟨h1, h2⟩
    refine ⟨h1, fun g hg ho => ?_⟩
    have := h2 g (List.mem_range.2 hg)
    rw [ho] at this
    simpa using this
  · rintro ⟨h1, h2⟩
    refine ⟨h1, fun g hg => ?_⟩
    cases ho : o.testBit g with
    | false => rfl
    | true => simp [h2 g (List.mem_range.1 hg) ho]
theorem testBit_cl {n : Nat} {rows : List Nat} {a m : Nat} : (cl n rows a).testBit m = true ↔ m < n ∧ ∀ g, g < rows.length → sub a (row rows g) = true → (row rows g).testBit m = true := by
  unfold cl
  rw [testBit_int]
  refine and_congr_right fun _ => forall_congr' fun g => forall_congr' fun hg => ?_
  rw [testBit_ext]
  simp [hg]
theorem cl_lt (n : Nat) (rows : List Nat) (a : Nat) : cl n rows a < 2 ^ n := ofBits_lt ..
theorem sub_full {n a : Nat} (h : a < 2 ^ n) : sub a (full n) = true := sub_iff.2 fun i hi => by
  rw [testBit_full, decide_eq_true_iff]
  rcases Nat.lt_or_ge i n with h' | h'
  · exact h'
  · rw [lt_two_pow_iff.1 h i h'] at hi; cases hi
theorem lt_of_sub {a b k : Nat} (h : sub a b = true) (hb : b < 2 ^ k) : a < 2 ^ k := Nat.lt_of_le_of_lt (sub_le h) hb
theorem sub_cl {n : Nat} {rows : List Nat} {a : Nat} (h : a < 2 ^ n) : sub a (cl n rows a) = true := sub_iff.2 fun i hi => by
  rw [testBit_cl]
  exact ⟨by simpa [testBit_full] using sub_iff.1 (sub_full h) i hi, fun g _ hs => sub_iff.1 hs i hi⟩
/-- a row with all of a has all of its closure -/
theorem cl_sub_row {n : Nat} {rows : List Nat} {a g : Nat} (hg : g < rows.length) (h : sub a (row rows g) = true) : sub (cl n rows a) (row rows g) = true := sub_iff.2 fun _ hi => (testBit_cl.1 hi).2 g hg h
theorem cl_mono {n : Nat} {rows : List Nat} {a b : Nat} (h : sub a b = true) : sub (cl n rows a) (cl n rows b) = true := sub_iff.2 fun i hi => by
  rw [testBit_cl] at hi ⊢
  exact ⟨hi.1, fun g hg hs => hi.2 g hg (sub_trans h hs)⟩
theorem cl_idem {n : Nat} {rows : List Nat} {a : Nat} (hn : a < 2 ^ n) : cl n rows (cl n rows a) = cl n rows a := by
  apply Nat.eq_of_testBit_eq
  intro i
  rw [Bool.eq_iff_iff, testBit_cl, testBit_cl]
  refine and_congr_right fun _ => forall_congr' fun g => forall_congr' fun hg => ⟨fun h hs => h (cl_sub_row hg hs), fun h hs => ?_⟩
  exact h (sub_trans (sub_cl hn) hs)
end Go.Proofs.Ytemhlblajnlogaa.Pu
