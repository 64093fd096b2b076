/- What the laws' own helpers answer: lists of numbers and contexts copied, compared, marked and held. No condition beyond the lengths' bound. -/
import Derived.Test.YtemhlblajnlogaaPr1
import Derived.Test.YtemhlblajnlogaaPr2
import Derived.Test.YtemhlblajnlogaaPr3
import Derived.Test.YtemhlblajnlogaaPuTy0
namespace Go.Proofs.Ytemhlblajnlogaa.Pu
open Go.RowKit Go.Proofs.YtemhlblajnlogaaW.PrintWords Go.Proofs.YtemhlblajnlogaaW.PrintLast Go.Proofs.YtemhlblajnlogaaW.PrintMore Go.Proofs.Ytemhlblajnlogaa.Pr

theorem set_midC {α : Type} (a b : List α) (x y : α) (n : Nat) (h : a.length = n) : (a ++ x :: b).set n y = a ++ y :: b := by
  subst h
  rw [List.set_append]
  simp
theorem szInt_more (l : List Int) (hl : l.length ≤ 9223372036854775807) (a : Int) (h0 : 0 ≤ a) (ha : a ≤ 1048576) : ∃ m : Int, laws_szIntS.f l a = some m ∧ (0 ≤ m → l.length ≤ 1048576) := by
  unfold laws_szIntS.f
  have hw : wrap64 (a - (l.length : Int)) = a - (l.length : Int) := by unfold wrap64; omega
  rw [hw]
  by_cases h : (a - (l.length : Int)) < 0
  · exact ⟨-1, by rw [if_pos h], fun h => absurd h (by decide)⟩
  · exact ⟨_, by rw [if_neg h], fun _ => by omega⟩
theorem szC_val (n : Int) (l : List Int) (hl : l.length ≤ 9223372036854775807) : ∃ m : Int, laws_szContext.f n l 1048576 = some m ∧ (0 ≤ m → l.length ≤ 1048576) := by
  obtain ⟨m, hm, hm2⟩ := szInt_more l hl 1048576 (by decide) (by decide)
  unfold laws_szContext.f
  rw [hm, Option.bind_some]
  by_cases h : m < 0
  · exact ⟨-1, by rw [if_pos h], fun h => absurd h (by decide)⟩
  · exact ⟨m, by rw [if_neg h], hm2⟩
theorem toInt_loop (l : List Int) (hl : l.length ≤ 1048576) : ∀ (rest : List Int) (i : Nat), l.drop i = rest →
    Ev (fun k => laws_toIntS.l0 k l (l.take i ++ List.replicate rest.length 0) (i : Int)) l := by
  intro rest
  induction rest with
  | nil =>
    intro i h
    have := drop_nil h
    refine Ev.step (f := fun _ => some l) (fun k => ?_) (Ev.now _)
    simp only [laws_toIntS.l0]
    rw [if_neg (by omega), List.take_of_length_le this]
    simp
  | cons x rest ih =>
    intro i h
    obtain ⟨hi, hx, hd⟩ := drop_cons (d := 0) h
    have hr : rest.length + (i + 1) = l.length := by
      have := congrArg List.length h
      simp at this
      omega
    refine Ev.step (fun k => ?_) (ih (i + 1) hd)
    simp only [laws_toIntS.l0]
    rw [if_pos (by omega), if_pos (by omega), if_pos (by simp; omega), rd_nat, hx, wrap_succ hi (by omega), Int.toNat_natCast, List.length_cons, List.replicate_succ, set_midC _ _ _ _ _ (by rw [List.length_take]; omega)]
    rw [show l.take (i + 1) = l.take i ++ [x] from by rw [List.take_succ_eq_append_getElem hi]; congr 2; rw [← hx, List.getD_eq_getElem?_getD, List.getElem?_eq_getElem hi]; rfl]
    simp
theorem toC_val (n : Int) (l : List Int) (hl : l.length ≤ 1048576) : Ev (fun k => laws_toContext.f k n l) (n, l) := by
  unfold laws_toContext.f laws_toIntS.f
  have h1 : Ev (fun k => if 0 ≤ (l.length : Int) then (if ((l.length : Int) : Int).toNat ≤ 35184372088832 then (laws_toIntS.l0 k l (List.replicate ((l.length : Int) : Int).toNat 0) 0) else (none)) else (none)) l := by
    refine Ev.congr (fun k => by rw [if_pos (by omega), if_pos (by omega), Int.toNat_natCast]) ?_
    exact toInt_loop l hl l 0 rfl
  exact Ev.bind h1 (Ev.now _)
theorem eqInt_loop (l : List Int) (hl : l.length ≤ 9223372036854775807) : ∀ (rest : List Int) (i : Nat), l.drop i = rest → Ev (fun k => laws_eqIntS.l0 k l l (i : Int)) true := by
  intro rest
  induction rest with
  | nil =>
    intro i h
    have := drop_nil h
    refine Ev.step (f := fun _ => some true) (fun k => ?_) (Ev.now _)
    simp only [laws_eqIntS.l0]
    rw [if_neg (by omega)]
  | cons x rest ih =>
    intro i h
    obtain ⟨hi, hx, hd⟩ := drop_cons (d := 0) h
    refine Ev.step (fun k => ?_) (ih (i + 1) hd)
    simp only [laws_eqIntS.l0]
    rw [if_pos (by omega), if_pos (by omega), if_pos (by omega), if_true, wrap_succ hi hl]
theorem eqInt_self (l : List Int) (hl : l.length ≤ 9223372036854775807) : Ev (fun k => laws_eqIntS.f k l l) true := by
  unfold laws_eqIntS.f
  refine Ev.congr (fun k => by rw [if_pos rfl]) ?_
  exact eqInt_loop l hl l 0 rfl
theorem eqC_self (n : Int) (l : List Int) (hl : l.length ≤ 9223372036854775807) : Ev (fun k => laws_eqContext.f k n l n l) true := by
  unfold laws_eqContext.f
  refine Ev.congr (fun k => by rw [if_pos rfl]) ?_
  refine Ev.bind (eqInt_self l hl) ?_
  exact Ev.congr (fun k => by rw [if_pos rfl]) (Ev.now true)
end Go.Proofs.Ytemhlblajnlogaa.Pu
