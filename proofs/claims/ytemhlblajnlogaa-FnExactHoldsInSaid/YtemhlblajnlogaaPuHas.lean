/- Elements of sets: what HasElement and ElementsOf answer. No condition. -/
import Derived.Test.YtemhlblajnlogaaPr11
import Derived.Test.YtemhlblajnlogaaPr4
import Derived.Test.YtemhlblajnlogaaPr6
import Derived.Test.YtemhlblajnlogaaPuVal
namespace Go.Proofs.Ytemhlblajnlogaa.Pu
open Go.RowKit Go.Proofs.YtemhlblajnlogaaW.PrintWords Go.Proofs.YtemhlblajnlogaaW.PrintLast Go.Proofs.YtemhlblajnlogaaW.PrintMore Go.Proofs.Ytemhlblajnlogaa.Pr

theorem shr_nat (a e : Nat) (he : e ≤ 64) : shr .i64 (a : Int) (e : Int) = ((a / 2 ^ e : Nat) : Int) := by
  unfold shr
  rw [Int.toNat_natCast, show (IntKind.i64).bits = 64 from rfl, Nat.min_eq_left he]
  simp
theorem bit_val (a e : Nat) (ha : a < 2 ^ 63) (he : e ≤ 64) : (Go.bits .and .i64 (shr .i64 (a : Int) (e : Int)) 1 == 1) = a.testBit e := by
  rw [shr_nat a e he]
  have h1 : a / 2 ^ e < 2 ^ 63 := Nat.lt_of_le_of_lt (Nat.div_le_self _ _) ha
  have h2 := and_nat h1 (show 1 < 2 ^ 63 by decide)
  rw [show ((1 : Nat) : Int) = 1 from rfl] at h2
  rw [h2, Nat.and_one_is_mod, Nat.testBit_eq_decide_div_mod_eq, Bool.eq_iff_iff, beq_iff_eq, decide_eq_true_iff]
  omega
def hasV (s e : Int) : Bool := isAny s && (decide (0 ≤ e ∧ e ≤ 7) && s.toNat.testBit e.toNat)
theorem wrapU_small (e : Int) (h0 : 0 ≤ e) (h1 : e ≤ 64) : IntKind.u64.wrap e = e := by
  simp [IntKind.wrap, IntKind.bits, IntKind.signed]
  omega
theorem l2Has_val (a e : Nat) (ha : a < 2 ^ 63) (he : e ≤ 64) : spec_l2Has.f (a : Int) (e : Int) = some (a.testBit e) := by
  unfold spec_l2Has.f
  rw [wrapU_small _ (by omega) (by omega), if_pos (by omega), bit_val a e ha he]
theorem hasI_val (s e : Int) : impl_HasElement.f s e = some (hasV s e) := by
  unfold impl_HasElement.f hasV
  rw [any_val, Option.bind_some]
  cases hs : isAny s with
  | false => rfl
  | true =>
    obtain ⟨a, ha, rfl⟩ := isAny_nat hs
    rw [if_pos rfl, within_val, Option.bind_some]
    by_cases he : 0 ≤ e ∧ e ≤ 7
    · obtain ⟨n, rfl⟩ : ∃ n : Nat, e = (n : Int) := ⟨e.toNat, by omega⟩
      rw [if_pos (decide_eq_true he), if_pos he.1, bit_val a n (by omega) (by omega), decide_eq_true he]
      simp
    · rw [if_neg (by simpa using he), decide_eq_false he]
      rfl
/-- the elements of a set, ascending -/
def elemsI (s : Nat) : List Int := ((List.range 8).filter fun (e : Nat) => s.testBit e).map fun (e : Nat) => (e : Int)
def elemsV (s : Int) : List Int := if isAny s then elemsI s.toNat else []
theorem elemsV_eq (s : Int) : elemsV s = ((List.range 8).filter fun (e : Nat) => hasV s (e : Int)).map fun (e : Nat) => (e : Int) := by
  unfold elemsV elemsI hasV
  cases isAny s with
  | false => simp
  | true =>
    rw [if_pos rfl]
    refine congrArg _ (List.filter_congr ?_)
    intro e he
    have := List.mem_range.1 he
    rw [Bool.true_and, decide_eq_true (show 0 ≤ (e : Int) ∧ (e : Int) ≤ 7 by omega), Bool.true_and, Int.toNat_natCast]
theorem elems_gen (g : Nat → List Int → Int → Option (List Int)) (s : Int)
    (hg : ∀ k (out : List Int) (i : Nat), out.length ≤ 8 → g (k + 1) out (i : Int) = if (i : Int) < 8 then (if hasV s (i : Int) = true then g k (out ++ [(i : Int)]) ((i + 1 : Nat) : Int) else g k out ((i + 1 : Nat) : Int)) else some out) :
    ∀ (d i : Nat), i + d = 8 → Ev (fun k => g k (((List.range i).filter fun (e : Nat) => hasV s (e : Int)).map fun (e : Nat) => (e : Int)) (i : Int)) (elemsV s) := by
  intro d
  have hlen : ∀ i, i ≤ 8 → (((List.range i).filter fun (e : Nat) => hasV s (e : Int)).map fun (e : Nat) => (e : Int)).length ≤ 8 := by
    intro i hi
    rw [List.length_map]
    have := List.length_filter_le (fun (e : Nat) => hasV s (e : Int)) (List.range i)
    rw [List.length_range] at this
    omega
  induction d with
  | zero =>
    intro i hi
    obtain rfl : i = 8 := by omega
    refine Ev.step (f := fun _ => some (elemsV s)) (fun k => ?_) (Ev.now _)
    rw [hg _ _ _ (hlen 8 (by omega)), if_neg (by decide), elemsV_eq]
  | succ d ih =>
    intro i hi
    refine Ev.step (fun k => ?_) (ih (i + 1) (by omega))
    rw [hg _ _ _ (hlen i (by omega)), if_pos (by omega), List.range_succ, List.filter_append, List.map_append]
    cases h : hasV s (i : Int) with
    | true => rw [if_pos rfl]; simp [h]
    | false => rw [if_neg (by decide)]; simp [h]
theorem elemsI_val (s : Int) : Ev (fun k => impl_ElementsOf.f k s) (elemsV s) := by
  unfold impl_ElementsOf.f
  refine elems_gen (fun k out i => impl_ElementsOf.l0 k s out i) s (fun k out i ho => ?_) 8 0 rfl
  simp only [impl_ElementsOf.l0]
  rw [hasI_val, Option.bind_some]
  by_cases hi : (i : Int) < 8
  · rw [if_pos hi, if_pos hi, if_pos (show out.length < 17592186044416 by omega), show wrap64 ((i : Int) + 1) = ((i + 1 : Nat) : Int) from by unfold wrap64; omega]
  · rw [if_neg hi, if_neg hi]
theorem elemsV_range (s : Int) : ∀ e ∈ elemsV s, 0 ≤ e ∧ e ≤ 7 := by
  intro e he
  rw [elemsV_eq] at he
  obtain ⟨n, hn, rfl⟩ := List.mem_map.1 he
  have := List.mem_range.1 (List.mem_filter.1 hn).1
  omega
theorem elemsV_length (s : Int) : (elemsV s).length ≤ 8 := by
  rw [elemsV_eq, List.length_map]
  have := List.length_filter_le (fun (e : Nat) => hasV s (e : Int)) (List.range 8)
  rw [List.length_range] at this
  omega
end Go.Proofs.Ytemhlblajnlogaa.Pu
