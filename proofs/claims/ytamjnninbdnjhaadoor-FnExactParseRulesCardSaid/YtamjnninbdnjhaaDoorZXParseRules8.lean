/- What the law needs of the program's functions as plain functions, of the proofs that their calls answer so, and of plain laws: gathered by a program of this place (pack.py) out of its printed texts. No condition beyond what each statement says. -/
import Derived.Test.YtamjnninbdnjhaaDoorZXParseRules5
import Derived.Test.YtamjnninbdnjhaaDoorZXParseRules7
namespace Go.Proofs.YtamjnninbdnjhaaDoor.Pu
open Go.RowKit Go.Proofs.YtamjnninbdnjhaaDoorW.PrintWords Go.Proofs.YtamjnninbdnjhaaDoorW.PrintLast Go.Proofs.YtamjnninbdnjhaaDoorW.PrintMore Go.Proofs.YtamjnninbdnjhaaDoor.Pr
theorem set_mid {α : Type} (a b : List α) (x y : α) (n : Nat) (h : a.length = n) : (a ++ x :: b).set n y = a ++ y :: b := by
  subst h
  rw [List.set_append]
  simp
theorem eqRule_loop (l : List IR) (hl : l.length ≤ 9223372036854775807) : ∀ (rest : List IR) (i : Nat), l.drop i = rest → Ev (fun k => laws_eqRuleS.l0 k l l (i : Int)) true := by
  intro rest
  induction rest with
  | nil =>
    intro i h
    have := drop_nil h
    refine Ev.step (f := fun _ => some true) (fun k => ?_) (Ev.now _)
    simp only [laws_eqRuleS.l0]
    rw [if_neg (by omega)]
  | cons x rest ih =>
    intro i h
    obtain ⟨hi, hx, hr⟩ := drop_cons (d := z27) h
    refine Ev.step (f := fun k => laws_eqRuleS.l0 k l l ((i + 1 : Nat) : Int)) (fun k => ?_) (ih (i + 1) hr)
    simp only [laws_eqRuleS.l0, laws_eqRule.f]
    rw [if_pos (by omega), if_pos (by omega), if_pos (by omega), wrap_succ hi hl]
    simp
theorem eqRule_self (l : List IR) (hl : l.length ≤ 9223372036854775807) : Ev (fun k => laws_eqRuleS.f k l l) true := by
  unfold laws_eqRuleS.f
  refine Ev.congr (fun k => ?_) (eqRule_loop l hl l 0 rfl)
  rw [if_pos rfl]
  rfl
/-- rules marked with the numbers from m on -/
def marked : List IR → Int → List IR
  | [], _ => []
  | _ :: l, m => ⟨m, m + 1⟩ :: marked l (m + 2)
theorem mark_loop (n : Nat) (hn : n ≤ 1048576) : ∀ (rest done : List IR) (i : Nat) (m : Int), done.length = i → i + rest.length = n → 0 ≤ m → m ≤ 1 + 2 * i →
    Ev (fun k => laws_markRuleS.l0 k (done ++ rest) m (i : Int)) (m + 2 * rest.length, done ++ marked rest m) := by
  intro rest
  induction rest with
  | nil =>
    intro done i m hd hi h0 h1
    refine Ev.step (f := fun _ => some (m, done)) (fun k => ?_) ?_
    · simp only [laws_markRuleS.l0, List.append_nil]
      rw [if_neg (by omega)]
    · simp only [marked, List.append_nil, List.length_nil]
      rw [show m + 2 * ((0 : Nat) : Int) = m from by omega]
      exact Ev.now _
  | cons x rest ih =>
    intro done i m hd hi h0 h1
    rw [List.length_cons] at hi
    have w1 : wrap64 (m + 1) = m + 1 := by unfold wrap64; omega
    have w2 : wrap64 (m + 1 + 1) = m + 2 := by unfold wrap64; omega
    have w3 : wrap64 ((i : Int) + 1) = ((i + 1 : Nat) : Int) := by unfold wrap64; omega
    refine Ev.step (f := fun k => laws_markRuleS.l0 k ((done ++ [⟨m, m + 1⟩]) ++ rest) (m + 2) ((i + 1 : Nat) : Int)) (fun k => ?_) ?_
    · simp only [laws_markRuleS.l0, Option.bind_some]
      rw [if_pos (by rw [List.length_append, List.length_cons]; omega), if_pos (by omega), w1, w2, w3, Int.toNat_natCast, set_mid _ _ _ _ i hd]
      have hrd : ∀ y : IR, rd_T27 (done ++ y :: rest) (i : Int) = y := by
        intro y
        rw [rdR, List.getD_eq_getElem?_getD, List.getElem?_append_right (by omega), hd]
        simp
      simp only [hrd]
      rw [set_mid _ _ _ _ i hd]
      simp
    · have := ih (done ++ [⟨m, m + 1⟩]) (i + 1) (m + 2) (by simp [hd]) (by omega) (by omega) (by omega)
      rw [marked, List.length_cons]
      rw [show m + 2 * ((rest.length + 1 : Nat) : Int) = m + 2 + 2 * (rest.length : Int) from by omega]
      simpa using this
theorem mark_val (l : List IR) (hl : l.length ≤ 1048576) : Ev (fun k => laws_markRuleS.f k l 1) (1 + 2 * (l.length : Int), marked l 1) := by
  unfold laws_markRuleS.f
  exact mark_loop l.length hl l [] 0 1 rfl (by omega) (by decide) (by omega)
theorem held_loop (n : Nat) (hn : n ≤ 1048576) : ∀ (rest done : List IR) (i : Nat) (m : Int), done.length = i → i + rest.length = n → 0 ≤ m → m ≤ 1 + 2 * i →
    Ev (fun k => laws_heldRuleS.l0 k (done ++ marked rest m) m (i : Int)) (m + 2 * rest.length) := by
  intro rest
  induction rest with
  | nil =>
    intro done i m hd hi h0 h1
    refine Ev.step (f := fun _ => some m) (fun k => ?_) ?_
    · simp only [laws_heldRuleS.l0, marked, List.append_nil]
      rw [if_neg (by omega)]
    · rw [List.length_nil, show m + 2 * ((0 : Nat) : Int) = m from by omega]
      exact Ev.now _
  | cons x rest ih =>
    intro done i m hd hi h0 h1
    rw [List.length_cons] at hi
    have w1 : wrap64 (m + 1) = m + 1 := by unfold wrap64; omega
    have w2 : wrap64 (m + 1 + 1) = m + 2 := by unfold wrap64; omega
    have w3 : wrap64 ((i : Int) + 1) = ((i + 1 : Nat) : Int) := by unfold wrap64; omega
    rw [marked]
    refine Ev.step (f := fun k => laws_heldRuleS.l0 k ((done ++ [⟨m, m + 1⟩]) ++ marked rest (m + 2)) (m + 2) ((i + 1 : Nat) : Int)) (fun k => ?_) ?_
    · simp only [laws_heldRuleS.l0]
      have hrd : rd_T27 (done ++ ⟨m, m + 1⟩ :: marked rest (m + 2)) (i : Int) = ⟨m, m + 1⟩ := by
        rw [rdR, List.getD_eq_getElem?_getD, List.getElem?_append_right (by omega), hd]
        simp
      rw [if_pos (by rw [List.length_append, List.length_cons]; omega), if_pos (by omega), hrd, if_pos rfl, w1, if_pos rfl, w2, w3]
      simp
    · have := ih (done ++ [⟨m, m + 1⟩]) (i + 1) (m + 2) (by simp [hd]) (by omega) (by omega) (by omega)
      rw [List.length_cons, show m + 2 * ((rest.length + 1 : Nat) : Int) = m + 2 + 2 * (rest.length : Int) from by omega]
      exact this
theorem held_val (l : List IR) (hl : l.length ≤ 1048576) : Ev (fun k => laws_heldRuleS.f k (marked l 1) 1) (1 + 2 * (l.length : Int)) := by
  unfold laws_heldRuleS.f
  exact held_loop l.length hl l [] 0 1 rfl (by omega) (by decide) (by omega)
theorem mark_pos (l : List IR) : ¬ (1 + 2 * (l.length : Int) < 0) := by omega
end Go.Proofs.YtamjnninbdnjhaaDoor.Pu
