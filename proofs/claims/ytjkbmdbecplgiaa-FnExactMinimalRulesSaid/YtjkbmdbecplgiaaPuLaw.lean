/- What the laws' own helpers answer: rules copied, compared, marked and held. No condition beyond the lengths' bound. -/
import Derived.Test.YtjkbmdbecplgiaaPr1
import Derived.Test.YtjkbmdbecplgiaaPr13
import Derived.Test.YtjkbmdbecplgiaaPr2
import Derived.Test.YtjkbmdbecplgiaaPr3
import Derived.Test.YtjkbmdbecplgiaaPuTy
namespace Go.Proofs.Ytjkbmdbecplgiaa.Pu
open Go.RowKit Go.Proofs.YtjkbmdbecplgiaaW.PrintWords Go.Proofs.YtjkbmdbecplgiaaW.PrintLast Go.Proofs.YtjkbmdbecplgiaaW.PrintMore Go.Proofs.Ytjkbmdbecplgiaa.Pr

abbrev LR := S23
def conv (x : LR) : IR := ⟨x.f0, x.f1⟩
theorem rdL (l : List LR) (i : Nat) : rd_T23 l (i : Int) = l.getD i z23 := by unfold rd_T23; rw [Int.toNat_natCast]
theorem set_mid {α : Type} (a b : List α) (x y : α) (n : Nat) (h : a.length = n) : (a ++ x :: b).set n y = a ++ y :: b := by
  subst h
  rw [List.set_append]
  simp
theorem sz_more (l : List LR) (hl : l.length ≤ 9223372036854775807) (a : Int) (h0 : 0 ≤ a) (ha : a ≤ 1048576) : ∃ m : Int, laws_szRuleS.f l a = some m ∧ (0 ≤ m → l.length ≤ 1048576) := by
  unfold laws_szRuleS.f
  have hw : wrap64 (a - (l.length : Int)) = a - (l.length : Int) := by unfold wrap64; omega
  rw [hw]
  by_cases h : (a - (l.length : Int)) < 0
  · exact ⟨-1, by rw [if_pos h], fun h => absurd h (by decide)⟩
  · exact ⟨_, by rw [if_neg h], fun _ => by omega⟩
theorem sz_val (l : List LR) (hl : l.length ≤ 9223372036854775807) : ∃ m : Int, laws_szRuleS.f l 1048576 = some m ∧ (0 ≤ m → l.length ≤ 1048576) := sz_more l hl 1048576 (by decide) (by decide)
theorem sz_le {l : List LR} {m : Int} (h : laws_szRuleS.f l 1048576 = some m) (hl : l.length ≤ 9223372036854775807) : m ≤ 1048576 := by
  unfold laws_szRuleS.f at h
  have hw : wrap64 (1048576 - (l.length : Int)) = 1048576 - (l.length : Int) := by unfold wrap64; omega
  rw [hw] at h
  split at h
  · have := Option.some.inj h; omega
  · have := Option.some.inj h; omega
theorem toRule_loop (l : List LR) (hl : l.length ≤ 1048576) : ∀ (rest : List LR) (i : Nat), l.drop i = rest →
    Ev (fun k => laws_toRuleS.l0 k l (((l.take i).map conv) ++ List.replicate rest.length z25) (i : Int)) (l.map conv) := by
  intro rest
  induction rest with
  | nil =>
    intro i h
    have := drop_nil h
    refine Ev.step (f := fun _ => some (l.map conv)) (fun k => ?_) (Ev.now _)
    simp only [laws_toRuleS.l0]
    rw [if_neg (by omega), List.take_of_length_le this]
    simp
  | cons x rest ih =>
    intro i h
    obtain ⟨hi, hx, hr⟩ := drop_cons (d := z23) h
    have hlen : l.length = i + (rest.length + 1) := by
      have := congrArg List.length h
      simp at this; omega
    have hti : ((l.take i).map conv).length = i := by simp; omega
    refine Ev.step (f := fun k => laws_toRuleS.l0 k l (((l.take (i + 1)).map conv) ++ List.replicate rest.length z25) ((i + 1 : Nat) : Int)) (fun k => ?_) (ih (i + 1) hr)
    simp only [laws_toRuleS.l0, laws_toRule.f, Option.bind_some]
    rw [if_pos (by omega), if_pos (by omega), if_pos (by rw [List.length_append, hti, List.length_replicate, List.length_cons]; omega), rdL, hx, wrap_succ hi (by omega), Int.toNat_natCast]
    congr 1
    rw [List.length_cons, List.replicate_succ, set_mid _ _ _ _ i hti]
    have ht : l.take (i + 1) = l.take i ++ [x] := by
      rw [List.take_succ_eq_append_getElem hi]
      congr 2
      rw [List.getD_eq_getElem?_getD, List.getElem?_eq_getElem hi] at hx
      exact hx
    rw [ht, List.map_append, List.append_assoc]
    rfl
theorem toRule_val (l : List LR) (hl : l.length ≤ 1048576) : Ev (fun k => laws_toRuleS.f k l) (l.map conv) := by
  unfold laws_toRuleS.f
  refine Ev.congr (fun k => ?_) (toRule_loop l hl l 0 rfl)
  rw [if_pos (by omega), if_pos (by omega)]
  simp
theorem eqRule_loop (l : List IR) (hl : l.length ≤ 9223372036854775807) : ∀ (rest : List IR) (i : Nat), l.drop i = rest → Ev (fun k => laws_eqRuleS.l0 k l l (i : Int)) true := by
  intro rest
  induction rest with
  | nil =>
    intro i h
    have := drop_nil h
    refine Ev.step (f := fun _ => some true) (fun k => ?_) (Ev.now _)
    simp only [laws_eqRuleS.l0]
    rw [if_neg (by omega)]
  | cons x rest ih =>
    intro i h
    obtain ⟨hi, hx, hr⟩ := drop_cons (d := z25) h
    refine Ev.step (f := fun k => laws_eqRuleS.l0 k l l ((i + 1 : Nat) : Int)) (fun k => ?_) (ih (i + 1) hr)
    simp only [laws_eqRuleS.l0, laws_eqRule.f]
    rw [if_pos (by omega), if_pos (by omega), if_pos (by omega), wrap_succ hi hl]
    simp
theorem eqRule_self (l : List IR) (hl : l.length ≤ 9223372036854775807) : Ev (fun k => laws_eqRuleS.f k l l) true := by
  unfold laws_eqRuleS.f
  refine Ev.congr (fun k => ?_) (eqRule_loop l hl l 0 rfl)
  rw [if_pos rfl]
  rfl
/-- rules marked with the numbers from m on -/
def marked : List IR → Int → List IR
  | [], _ => []
  | _ :: l, m => ⟨m, m + 1⟩ :: marked l (m + 2)
theorem marked_length : ∀ (l : List IR) (m : Int), (marked l m).length = l.length
  | [], _ => rfl
  | _ :: l, m => by rw [marked, List.length_cons, List.length_cons, marked_length l]
theorem mark_loop (n : Nat) (hn : n ≤ 1048576) : ∀ (rest done : List IR) (i : Nat) (m : Int), done.length = i → i + rest.length = n → 0 ≤ m → m ≤ 1 + 2 * i →
    Ev (fun k => laws_markRuleS.l0 k (done ++ rest) m (i : Int)) (m + 2 * rest.length, done ++ marked rest m) := by
  intro rest
  induction rest with
  | nil =>
    intro done i m hd hi h0 h1
    refine Ev.step (f := fun _ => some (m, done)) (fun k => ?_) ?_
    · simp only [laws_markRuleS.l0, List.append_nil]
      rw [if_neg (by omega)]
    · simp only [marked, List.append_nil, List.length_nil]
      rw [show m + 2 * ((0 : Nat) : Int) = m from by omega]
      exact Ev.now _
  | cons x rest ih =>
    intro done i m hd hi h0 h1
    rw [List.length_cons] at hi
    have w1 : wrap64 (m + 1) = m + 1 := by unfold wrap64; omega
    have w2 : wrap64 (m + 1 + 1) = m + 2 := by unfold wrap64; omega
    have w3 : wrap64 ((i : Int) + 1) = ((i + 1 : Nat) : Int) := by unfold wrap64; omega
    refine Ev.step (f := fun k => laws_markRuleS.l0 k ((done ++ [⟨m, m + 1⟩]) ++ rest) (m + 2) ((i + 1 : Nat) : Int)) (fun k => ?_) ?_
    · simp only [laws_markRuleS.l0, Option.bind_some]
      rw [if_pos (by rw [List.length_append, List.length_cons]; omega), if_pos (by omega), w1, w2, w3, Int.toNat_natCast, set_mid _ _ _ _ i hd]
      have hrd : ∀ y : IR, rd_T25 (done ++ y :: rest) (i : Int) = y := by
        intro y
        rw [rdR, List.getD_eq_getElem?_getD, List.getElem?_append_right (by omega), hd]
        simp
      simp only [hrd]
      rw [set_mid _ _ _ _ i hd]
      simp
    · have := ih (done ++ [⟨m, m + 1⟩]) (i + 1) (m + 2) (by simp [hd]) (by omega) (by omega) (by omega)
      rw [marked, List.length_cons]
      rw [show m + 2 * ((rest.length + 1 : Nat) : Int) = m + 2 + 2 * (rest.length : Int) from by omega]
      simpa using this
theorem mark_val (l : List IR) (hl : l.length ≤ 1048576) : Ev (fun k => laws_markRuleS.f k l 1) (1 + 2 * (l.length : Int), marked l 1) := by
  unfold laws_markRuleS.f
  exact mark_loop l.length hl l [] 0 1 rfl (by omega) (by decide) (by omega)
theorem held_loop (n : Nat) (hn : n ≤ 1048576) : ∀ (rest done : List IR) (i : Nat) (m : Int), done.length = i → i + rest.length = n → 0 ≤ m → m ≤ 1 + 2 * i →
    Ev (fun k => laws_heldRuleS.l0 k (done ++ marked rest m) m (i : Int)) (m + 2 * rest.length) := by
  intro rest
  induction rest with
  | nil =>
    intro done i m hd hi h0 h1
    refine Ev.step (f := fun _ => some m) (fun k => ?_) ?_
    · simp only [laws_heldRuleS.l0, marked, List.append_nil]
      rw [if_neg (by omega)]
    · rw [List.length_nil, show m + 2 * ((0 : Nat) : Int) = m from by omega]
      exact Ev.now _
  | cons x rest ih =>
    intro done i m hd hi h0 h1
    rw [List.length_cons] at hi
    have w1 : wrap64 (m + 1) = m + 1 := by unfold wrap64; omega
    have w2 : wrap64 (m + 1 + 1) = m + 2 := by unfold wrap64; omega
    have w3 : wrap64 ((i : Int) + 1) = ((i + 1 : Nat) : Int) := by unfold wrap64; omega
    rw [marked]
    refine Ev.step (f := fun k => laws_heldRuleS.l0 k ((done ++ [⟨m, m + 1⟩]) ++ marked rest (m + 2)) (m + 2) ((i + 1 : Nat) : Int)) (fun k => ?_) ?_
    · simp only [laws_heldRuleS.l0]
      have hrd : rd_T25 (done ++ ⟨m, m + 1⟩ :: marked rest (m + 2)) (i : Int) = ⟨m, m + 1⟩ := by
        rw [rdR, List.getD_eq_getElem?_getD, List.getElem?_append_right (by omega), hd]
        simp
      rw [if_pos (by rw [List.length_append, List.length_cons]; omega), if_pos (by omega), hrd, if_pos rfl, w1, if_pos rfl, w2, w3]
      simp
    · have := ih (done ++ [⟨m, m + 1⟩]) (i + 1) (m + 2) (by simp [hd]) (by omega) (by omega) (by omega)
      rw [List.length_cons, show m + 2 * ((rest.length + 1 : Nat) : Int) = m + 2 + 2 * (rest.length : Int) from by omega]
      exact this
theorem held_val (l : List IR) (hl : l.length ≤ 1048576) : Ev (fun k => laws_heldRuleS.f k (marked l 1) 1) (1 + 2 * (l.length : Int)) := by
  unfold laws_heldRuleS.f
  exact held_loop l.length hl l [] 0 1 rfl (by omega) (by decide) (by omega)
theorem mark_pos (l : List IR) : ¬ (1 + 2 * (l.length : Int) < 0) := by omega
end Go.Proofs.Ytjkbmdbecplgiaa.Pu
