/- Values of IsRedundant, of the reference and of the program. No condition beyond the length's bound. -/
import Derived.Test.YtjkbmdbecplgiaaPr11
import Derived.Test.YtjkbmdbecplgiaaPr21
import Derived.Test.YtjkbmdbecplgiaaPuClosed
namespace Go.Proofs.Ytjkbmdbecplgiaa.Pu
open Go.RowKit Go.Proofs.YtjkbmdbecplgiaaW.PrintWords Go.Proofs.YtjkbmdbecplgiaaW.PrintLast Go.Proofs.YtjkbmdbecplgiaaW.PrintMore Go.Proofs.Ytjkbmdbecplgiaa.Pr

def redV (l : List IR) (i : Int) : Bool := if 0 ≤ i ∧ i < (l.length : Int) then folV (l.eraseIdx i.toNat) (l.getD i.toNat z25) else false
theorem wrap_pred {n : Nat} (h : n ≤ 1048576) : wrap64 ((n : Int) - 1) = (n : Int) - 1 := by unfold wrap64; omega
theorem ite_some {α : Type} {c : Prop} [Decidable c] {x y : Option α} {r : α} (h : c) (hx : x = some r) : (if c then x else y) = some r := by rw [if_pos h]; exact hx
theorem bind_now {α β : Type} {a : α} {f : α → Option β} {r : β} (h : f a = some r) : (some a).bind f = some r := h
theorem without_val (l : List IR) (hl : l.length ≤ 1048576) (k : Nat) (hk : k < l.length) : spec_l11Without.f l (k : Int) = some (l.eraseIdx k) := by
  have hw : wrap64 ((k : Int) + 1) = ((k + 1 : Nat) : Int) := by unfold wrap64; omega
  have h1 : (l.take (k : Int).toNat).length ≤ 1048576 := by rw [List.length_take]; omega
  have h2 : (l.drop ((k + 1 : Nat) : Int).toNat).length ≤ 1048576 := by rw [List.length_drop]; omega
  have h3 : ∀ n m : Nat, n ≤ 1048576 → m ≤ 1048576 → n + m < 8796093022208 := fun n m _ _ => by omega
  unfold spec_l11Without.f
  rw [hw]
  refine bind_now (ite_some (by omega) (ite_some (by omega) (bind_now (ite_some (h3 _ _ (Nat.zero_le _) h1) (bind_now (ite_some (by omega) (ite_some (by omega) (bind_now (ite_some (h3 _ _ (by rw [List.nil_append]; exact h1) h2) ?_)))))))))
  rw [Int.toNat_natCast, Int.toNat_natCast, List.nil_append, List.eraseIdx_eq_take_drop_succ]
theorem others_val (l : List IR) (hl : l.length ≤ 1048576) (k : Nat) (hk : k < l.length) : impl_others.f l (k : Int) = some (l.eraseIdx k) := by
  unfold impl_others.f
  rw [if_pos ⟨by omega, by omega, by omega⟩, Int.toNat_natCast]
theorem redS_val (l : List IR) (hl : l.length ≤ 1048576) (i : Int) : Ev (fun k => spec_IsRedundant.f k l i) (redV l i) := by
  unfold spec_IsRedundant.f redV
  rw [l1In_val, wrap_pred hl]
  simp only [Option.bind_some]
  by_cases h : 0 ≤ i ∧ i < (l.length : Int)
  · rw [if_pos h]
    obtain ⟨k, rfl⟩ : ∃ k : Nat, i = (k : Int) := ⟨i.toNat, by omega⟩
    have hk : k < l.length := by omega
    refine Ev.congr (fun n => by rw [if_pos (decide_eq_true (by constructor <;> omega)), without_val l hl k hk, Option.bind_some, if_pos h.1, if_pos h.2, rdR]) ?_
    rw [Int.toNat_natCast]
    have hle : (l.eraseIdx k).length ≤ 9223372036854775807 := by rw [List.length_eraseIdx]; split <;> omega
    exact Ev.bind (folS_val _ hle _ _) (Ev.now _)
  · rw [if_neg h]
    exact Ev.congr (fun n => by rw [if_neg (by rw [decide_eq_true_eq]; omega)]) (Ev.now _)
theorem redI_val (l : List IR) (hl : l.length ≤ 1048576) (i : Int) : Ev (fun k => impl_IsRedundant.f k l i) (redV l i) := by
  unfold impl_IsRedundant.f redV
  rw [within_val, wrap_pred hl]
  simp only [Option.bind_some]
  by_cases h : 0 ≤ i ∧ i < (l.length : Int)
  · rw [if_pos h]
    obtain ⟨k, rfl⟩ : ∃ k : Nat, i = (k : Int) := ⟨i.toNat, by omega⟩
    have hk : k < l.length := by omega
    refine Ev.congr (fun n => by rw [if_pos (decide_eq_true (by constructor <;> omega)), others_val l hl k hk, Option.bind_some, if_pos h.1, if_pos h.2, rdR]) ?_
    rw [Int.toNat_natCast]
    have hle : (l.eraseIdx k).length ≤ 9223372036854775807 := by rw [List.length_eraseIdx]; split <;> omega
    exact Ev.bind (folI_val _ hle _ _) (Ev.now _)
  · rw [if_neg h]
    exact Ev.congr (fun n => by rw [if_neg (by rw [decide_eq_true_eq]; omega)]) (Ev.now _)
end Go.Proofs.Ytjkbmdbecplgiaa.Pu
