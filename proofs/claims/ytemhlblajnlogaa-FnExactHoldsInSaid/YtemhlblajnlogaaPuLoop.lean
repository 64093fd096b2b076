/- A loop that counts up, as a fold; sets gathered bit by bit. No condition beyond what each statement says. -/
import Derived.Test.YtemhlblajnlogaaPuTy0
namespace Go.Proofs.Ytemhlblajnlogaa.Pu
open Go.RowKit Go.Proofs.YtemhlblajnlogaaW.PrintWords Go.Proofs.YtemhlblajnlogaaW.PrintLast Go.Proofs.YtemhlblajnlogaaW.PrintMore Go.Proofs.Ytemhlblajnlogaa.Pr

theorem ev_fold {α β : Type} {g : Nat → α → Int → Option β} (f : Nat → α → α) (inv : Nat → α → Prop) {res : β} {N : Nat}
    (hs : ∀ i a, i < N → inv i a → Ev (fun k => g k (f i a) ((i + 1 : Nat) : Int)) res → Ev (fun k => g k a (i : Int)) res)
    (hp : ∀ i a, i < N → inv i a → inv (i + 1) (f i a)) :
    ∀ (d i : Nat) (a : α), i + d = N → inv i a → (∀ b, b = foldIdx f i N a → inv N b → Ev (fun k => g k b (N : Int)) res) → Ev (fun k => g k a (i : Int)) res := by
  intro d
  induction d with
  | zero =>
    intro i a h hi he
    obtain rfl : i = N := by omega
    exact he a (foldIdx_end f (Nat.le_refl _) a).symm hi
  | succ d ih =>
    intro i a h hi he
    refine hs i a (by omega) hi (ih (i + 1) (f i a) (by omega) (hp i a (by omega) hi) fun b hb hb' => he b ?_ hb')
    rw [hb, ← foldIdx_step f (by omega)]
theorem fold_inv {α : Type} (f : Nat → α → α) (inv : Nat → α → Prop) {N : Nat} (hp : ∀ i a, i < N → inv i a → inv (i + 1) (f i a)) : ∀ (d i : Nat) (a : α), i + d = N → inv i a → inv N (foldIdx f i N a) := by
  intro d
  induction d with
  | zero =>
    intro i a h hi
    obtain rfl : i = N := by omega
    rw [foldIdx_end f (Nat.le_refl _)]
    exact hi
  | succ d ih =>
    intro i a h hi
    rw [foldIdx_step f (by omega)]
    exact ih (i + 1) (f i a) (by omega) (hp i a (by omega) hi)
theorem fold_congr {α : Type} {f g : Nat → α → α} {N : Nat} : ∀ (d i : Nat) (a : α), i + d = N → (∀ j a, i ≤ j → j < N → f j a = g j a) → foldIdx f i N a = foldIdx g i N a := by
  intro d
  induction d with
  | zero => intro i a h _; rw [foldIdx_end f (by omega), foldIdx_end g (by omega)]
  | succ d ih =>
    intro i a h hc
    rw [foldIdx_step f (by omega), foldIdx_step g (by omega), hc i a (Nat.le_refl _) (by omega)]
    exact ih (i + 1) _ (by omega) fun j a hj => hc j a (by omega)
def bitStep (b : Nat → Bool) (i a : Nat) : Nat := if b i = true then a ||| 2 ^ i else a
theorem fold_bits (b : Nat → Bool) : ∀ n, foldIdx (bitStep b) 0 n 0 = ofBits b n
  | 0 => foldIdx_end _ (Nat.le_refl _) _
  | n + 1 => by
    rw [foldIdx_last _ (Nat.zero_le _), fold_bits b n, ofBits, bitStep]
    cases b n <;> simp
theorem bitStep_lt {b : Nat → Bool} {i a n : Nat} (hi : i < n) (ha : a < 2 ^ n) : bitStep b i a < 2 ^ n := by
  unfold bitStep
  split
  · exact Nat.or_lt_two_pow ha (Nat.pow_lt_pow_right (by decide) hi)
  · exact ha
theorem shl_one (e : Nat) (he : e ≤ 8) : shl .i64 1 (e : Int) = ((2 ^ e : Nat) : Int) := by
  have h : e = 0 ∨ e = 1 ∨ e = 2 ∨ e = 3 ∨ e = 4 ∨ e = 5 ∨ e = 6 ∨ e = 7 ∨ e = 8 := by omega
  rcases h with rfl | rfl | rfl | rfl | rfl | rfl | rfl | rfl | rfl <;> decide +kernel
theorem shl_zero (e : Nat) (he : e ≤ 8) : shl .i64 0 (e : Int) = 0 := by
  have h : e = 0 ∨ e = 1 ∨ e = 2 ∨ e = 3 ∨ e = 4 ∨ e = 5 ∨ e = 6 ∨ e = 7 ∨ e = 8 := by omega
  rcases h with rfl | rfl | rfl | rfl | rfl | rfl | rfl | rfl | rfl <;> decide +kernel
theorem pow_256 {n : Nat} (h : n ≤ 8) : 2 ^ n ≤ 256 := show 2 ^ n ≤ 2 ^ 8 from Nat.pow_le_pow_right (by decide) h
theorem lt_256 {n a : Nat} (h : n ≤ 8) (ha : a < 2 ^ n) : a < 256 := Nat.lt_of_lt_of_le ha (pow_256 h)
theorem or_bit {a e : Nat} (ha : a < 256) (he : e ≤ 7) : Go.bits .or .i64 (a : Int) (shl .i64 1 (e : Int)) = ((a ||| 2 ^ e : Nat) : Int) := by
  have h8 : 2 ^ e ≤ 2 ^ 7 := Nat.pow_le_pow_right (by decide) he
  rw [shl_one e (by omega)]
  exact or_nat (by omega) (by omega)
/-- all elements of s are in t, as Go's & tells it -/
theorem and_is {a b : Nat} (ha : a < 256) (hb : b < 256) : (Go.bits .and .i64 (b : Int) (a : Int) = (a : Int)) ↔ sub a b = true := by
  rw [and_nat (by omega) (by omega), Nat.and_comm, Int.natCast_inj]
  unfold sub
  simp
theorem and_is' {a b : Nat} (ha : a < 256) (hb : b < 256) : (Go.bits .and .i64 (a : Int) (b : Int) = (a : Int)) ↔ sub a b = true := by
  rw [and_nat (by omega) (by omega), Int.natCast_inj]
  unfold sub
  simp
theorem andNot_is {a b : Nat} (ha : a < 256) (hb : b < 256) : (Go.bits .andNot .i64 (a : Int) (b : Int) = 0) ↔ sub a b = true := by
  rw [andNot_nat (by omega) (by omega), ← diff_eq_zero]
  omega
theorem and_lt {a b n : Nat} (h : a < 2 ^ n) : a &&& b < 2 ^ n := Nat.lt_of_le_of_lt Nat.and_le_left h
/-! lists of sets, as Go has them -/
def cast (R : List Nat) : List Int := R.map fun (x : Nat) => (x : Int)
theorem cast_length (R : List Nat) : (cast R).length = R.length := List.length_map ..
theorem rd_cast (R : List Nat) (i : Nat) : rd (cast R) (i : Int) = ((R.getD i 0 : Nat) : Int) := by
  rw [rd_nat]
  unfold cast
  rw [List.getD_eq_getElem?_getD, List.getD_eq_getElem?_getD, List.getElem?_map]
  cases R[i]? <;> rfl
theorem cast_of {l : List Int} (h : ∀ x ∈ l, 0 ≤ x) : l = cast (l.map Int.toNat) := by
  unfold cast
  rw [List.map_map]
  conv => lhs; rw [← List.map_id l]
  refine List.map_congr_left fun x hx => ?_
  have := h x hx
  simp [Int.toNat_of_nonneg this]
end Go.Proofs.Ytemhlblajnlogaa.Pu
