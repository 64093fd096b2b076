/- What the law needs of the program's functions as plain functions, of the proofs that their calls answer so, and of plain laws: gathered by a program of this place (pack.py) out of its printed texts. No condition beyond what each statement says. -/
import Derived.Test.YtamjnninbdnjhaaZXCountAccepted1
import Derived.Test.YtamjnninbdnjhaaZXCountAccepted2
import Derived.Laws.BitsLemmas
import Derived.RowKit
import Derived.Test.YtamjnninbdnjhaaZXCountAccepted5
import Derived.Test.YtamjnninbdnjhaaZXCountAccepted4
import Derived.Test.YtamjnninbdnjhaaZXCountAccepted6
import Derived.Test.YtamjnninbdnjhaaZXCountAccepted7
import Derived.Test.YtamjnninbdnjhaaZXCountAccepted8
import Derived.Deep.Slices
import Derived.WideShapes
import Derived.ProofKit
import Derived.SizedLaws
namespace Go.Proofs.Ytamjnninbdnjhaa.Pu
/-- all elements of a are in b -/
def sub (a b : Nat) : Bool := a &&& b == a
abbrev Rules := List (Nat × Nat)
/-- one step: the set with the conclusions of all rules whose premises it has -/
def step (R : Rules) (s : Nat) : Nat := R.foldl (fun o r => if sub r.1 s then o ||| r.2 else o) s
end Go.Proofs.Ytamjnninbdnjhaa.Pu
namespace Go.Proofs.Ytamjnninbdnjhaa.Pu
open Go.RowKit Go.Proofs.YtamjnninbdnjhaaW.PrintWords Go.Proofs.YtamjnninbdnjhaaW.PrintLast Go.Proofs.YtamjnninbdnjhaaW.PrintMore Go.Proofs.Ytamjnninbdnjhaa.Pr
theorem wrap_succ {i n : Nat} (h : i < n) (hn : n ≤ 9223372036854775807) : wrap64 ((i : Int) + 1) = ((i + 1 : Nat) : Int) := by unfold wrap64; omega
theorem drop_nil {α : Type} {l : List α} {i : Nat} (h : l.drop i = []) : l.length ≤ i := by
  have := congrArg List.length h
  simp at this; omega
theorem drop_cons {α : Type} {l rest : List α} {i : Nat} {x d : α} (h : l.drop i = x :: rest) : i < l.length ∧ l.getD i d = x ∧ l.drop (i + 1) = rest := by
  have hi : i < l.length := by
    rcases Nat.lt_or_ge i l.length with h' | h'
    · exact h'
    · rw [List.drop_of_length_le h'] at h; cases h
  rw [List.drop_eq_getElem_cons hi] at h
  injection h with h1 h2
  exact ⟨hi, by rw [List.getD_eq_getElem?_getD, List.getElem?_eq_getElem hi]; exact h1, h2⟩
theorem rd_nat (l : List Int) (i : Nat) : rd l (i : Int) = l.getD i 0 := by unfold rd; rw [Int.toNat_natCast]
end Go.Proofs.Ytamjnninbdnjhaa.Pu
namespace Go.Proofs.Ytamjnninbdnjhaa.Pu
open Go.RowKit Go.Proofs.YtamjnninbdnjhaaW.PrintWords Go.Proofs.YtamjnninbdnjhaaW.PrintLast Go.Proofs.YtamjnninbdnjhaaW.PrintMore Go.Proofs.Ytamjnninbdnjhaa.Pr
theorem set_midC {α : Type} (a b : List α) (x y : α) (n : Nat) (h : a.length = n) : (a ++ x :: b).set n y = a ++ y :: b := by
  subst h
  rw [List.set_append]
  simp
theorem szInt_more (l : List Int) (hl : l.length ≤ 9223372036854775807) (a : Int) (h0 : 0 ≤ a) (ha : a ≤ 1048576) : ∃ m : Int, laws_szIntS.f l a = some m ∧ (0 ≤ m → l.length ≤ 1048576) := by
  unfold laws_szIntS.f
  have hw : wrap64 (a - (l.length : Int)) = a - (l.length : Int) := by unfold wrap64; omega
  rw [hw]
  by_cases h : (a - (l.length : Int)) < 0
  · exact ⟨-1, by rw [if_pos h], fun h => absurd h (by decide)⟩
  · exact ⟨_, by rw [if_neg h], fun _ => by omega⟩
theorem toInt_loop (l : List Int) (hl : l.length ≤ 1048576) : ∀ (rest : List Int) (i : Nat), l.drop i = rest →
    Ev (fun k => laws_toIntS.l0 k l (l.take i ++ List.replicate rest.length 0) (i : Int)) l := by
  intro rest
  induction rest with
  | nil =>
    intro i h
    have := drop_nil h
    refine Ev.step (f := fun _ => some l) (fun k => ?_) (Ev.now _)
    simp only [laws_toIntS.l0]
    rw [if_neg (by omega), List.take_of_length_le this]
    simp
  | cons x rest ih =>
    intro i h
    obtain ⟨hi, hx, hd⟩ := drop_cons (d := 0) h
    have hr : rest.length + (i + 1) = l.length := by
      have := congrArg List.length h
      simp at this
      omega
    refine Ev.step (fun k => ?_) (ih (i + 1) hd)
    simp only [laws_toIntS.l0]
    rw [if_pos (by omega), if_pos (by omega), if_pos (by simp; omega), rd_nat, hx, wrap_succ hi (by omega), Int.toNat_natCast, List.length_cons, List.replicate_succ, set_midC _ _ _ _ _ (by rw [List.length_take]; omega)]
    rw [show l.take (i + 1) = l.take i ++ [x] from by rw [List.take_succ_eq_append_getElem hi]; congr 2; rw [← hx, List.getD_eq_getElem?_getD, List.getElem?_eq_getElem hi]; rfl]
    simp
theorem toC_val (n : Int) (l : List Int) (hl : l.length ≤ 1048576) : Ev (fun k => laws_toContext.f k n l) (n, l) := by
  unfold laws_toContext.f laws_toIntS.f
  have h1 : Ev (fun k => if 0 ≤ (l.length : Int) then (if ((l.length : Int) : Int).toNat ≤ 35184372088832 then (laws_toIntS.l0 k l (List.replicate ((l.length : Int) : Int).toNat 0) 0) else (none)) else (none)) l := by
    refine Ev.congr (fun k => by rw [if_pos (by omega), if_pos (by omega), Int.toNat_natCast]) ?_
    exact toInt_loop l hl l 0 rfl
  exact Ev.bind h1 (Ev.now _)
theorem eqInt_loop (l : List Int) (hl : l.length ≤ 9223372036854775807) : ∀ (rest : List Int) (i : Nat), l.drop i = rest → Ev (fun k => laws_eqIntS.l0 k l l (i : Int)) true := by
  intro rest
  induction rest with
  | nil =>
    intro i h
    have := drop_nil h
    refine Ev.step (f := fun _ => some true) (fun k => ?_) (Ev.now _)
    simp only [laws_eqIntS.l0]
    rw [if_neg (by omega)]
  | cons x rest ih =>
    intro i h
    obtain ⟨hi, hx, hd⟩ := drop_cons (d := 0) h
    refine Ev.step (fun k => ?_) (ih (i + 1) hd)
    simp only [laws_eqIntS.l0]
    rw [if_pos (by omega), if_pos (by omega), if_pos (by omega), if_true, wrap_succ hi hl]
theorem eqInt_self (l : List Int) (hl : l.length ≤ 9223372036854775807) : Ev (fun k => laws_eqIntS.f k l l) true := by
  unfold laws_eqIntS.f
  refine Ev.congr (fun k => by rw [if_pos rfl]) ?_
  exact eqInt_loop l hl l 0 rfl
theorem eqC_self (n : Int) (l : List Int) (hl : l.length ≤ 9223372036854775807) : Ev (fun k => laws_eqContext.f k n l n l) true := by
  unfold laws_eqContext.f
  refine Ev.congr (fun k => by rw [if_pos rfl]) ?_
  refine Ev.bind (eqInt_self l hl) ?_
  exact Ev.congr (fun k => by rw [if_pos rfl]) (Ev.now true)
end Go.Proofs.Ytamjnninbdnjhaa.Pu
namespace Go.Proofs.Ytamjnninbdnjhaa.Pu
open Go.RowKit Go.Proofs.YtamjnninbdnjhaaW.PrintWords Go.Proofs.YtamjnninbdnjhaaW.PrintLast Go.Proofs.YtamjnninbdnjhaaW.PrintMore Go.Proofs.Ytamjnninbdnjhaa.Pr
abbrev IR := S46
end Go.Proofs.Ytamjnninbdnjhaa.Pu
namespace Go.Proofs.Ytamjnninbdnjhaa.Pu
open Go.RowKit Go.Proofs.YtamjnninbdnjhaaW.PrintWords Go.Proofs.YtamjnninbdnjhaaW.PrintLast Go.Proofs.YtamjnninbdnjhaaW.PrintMore Go.Proofs.Ytamjnninbdnjhaa.Pr
abbrev LR := S40
def conv (x : LR) : IR := ⟨x.f0, x.f1⟩
theorem rdL (l : List LR) (i : Nat) : rd_T40 l (i : Int) = l.getD i z40 := by unfold rd_T40; rw [Int.toNat_natCast]
theorem set_mid {α : Type} (a b : List α) (x y : α) (n : Nat) (h : a.length = n) : (a ++ x :: b).set n y = a ++ y :: b := by
  subst h
  rw [List.set_append]
  simp
theorem toRule_loop (l : List LR) (hl : l.length ≤ 1048576) : ∀ (rest : List LR) (i : Nat), l.drop i = rest →
    Ev (fun k => laws_toRuleS.l0 k l (((l.take i).map conv) ++ List.replicate rest.length z46) (i : Int)) (l.map conv) := by
  intro rest
  induction rest with
  | nil =>
    intro i h
    have := drop_nil h
    refine Ev.step (f := fun _ => some (l.map conv)) (fun k => ?_) (Ev.now _)
    simp only [laws_toRuleS.l0]
    rw [if_neg (by omega), List.take_of_length_le this]
    simp
  | cons x rest ih =>
    intro i h
    obtain ⟨hi, hx, hr⟩ := drop_cons (d := z40) h
    have hlen : l.length = i + (rest.length + 1) := by
      have := congrArg List.length h
      simp at this; omega
    have hti : ((l.take i).map conv).length = i := by simp; omega
    refine Ev.step (f := fun k => laws_toRuleS.l0 k l (((l.take (i + 1)).map conv) ++ List.replicate rest.length z46) ((i + 1 : Nat) : Int)) (fun k => ?_) (ih (i + 1) hr)
    simp only [laws_toRuleS.l0, laws_toRule.f, Option.bind_some]
    rw [if_pos (by omega), if_pos (by omega), if_pos (by rw [List.length_append, hti, List.length_replicate, List.length_cons]; omega), rdL, hx, wrap_succ hi (by omega), Int.toNat_natCast]
    congr 1
    rw [List.length_cons, List.replicate_succ, set_mid _ _ _ _ i hti]
    have ht : l.take (i + 1) = l.take i ++ [x] := by
      rw [List.take_succ_eq_append_getElem hi]
      congr 2
      rw [List.getD_eq_getElem?_getD, List.getElem?_eq_getElem hi] at hx
      exact hx
    rw [ht, List.map_append, List.append_assoc]
    rfl
theorem toRule_val (l : List LR) (hl : l.length ≤ 1048576) : Ev (fun k => laws_toRuleS.f k l) (l.map conv) := by
  unfold laws_toRuleS.f
  refine Ev.congr (fun k => ?_) (toRule_loop l hl l 0 rfl)
  rw [if_pos (by omega), if_pos (by omega)]
  simp
theorem eqRule_loop (l : List IR) (hl : l.length ≤ 9223372036854775807) : ∀ (rest : List IR) (i : Nat), l.drop i = rest → Ev (fun k => laws_eqRuleS.l0 k l l (i : Int)) true := by
  intro rest
  induction rest with
  | nil =>
    intro i h
    have := drop_nil h
    refine Ev.step (f := fun _ => some true) (fun k => ?_) (Ev.now _)
    simp only [laws_eqRuleS.l0]
    rw [if_neg (by omega)]
  | cons x rest ih =>
    intro i h
    obtain ⟨hi, hx, hr⟩ := drop_cons (d := z46) h
    refine Ev.step (f := fun k => laws_eqRuleS.l0 k l l ((i + 1 : Nat) : Int)) (fun k => ?_) (ih (i + 1) hr)
    simp only [laws_eqRuleS.l0, laws_eqRule.f]
    rw [if_pos (by omega), if_pos (by omega), if_pos (by omega), wrap_succ hi hl]
    simp
theorem eqRule_self (l : List IR) (hl : l.length ≤ 9223372036854775807) : Ev (fun k => laws_eqRuleS.f k l l) true := by
  unfold laws_eqRuleS.f
  refine Ev.congr (fun k => ?_) (eqRule_loop l hl l 0 rfl)
  rw [if_pos rfl]
  rfl
end Go.Proofs.Ytamjnninbdnjhaa.Pu
namespace Go.Proofs.Ytamjnninbdnjhaa.Pu
open Go.RowKit Go.Proofs.YtamjnninbdnjhaaW.PrintWords Go.Proofs.YtamjnninbdnjhaaW.PrintLast Go.Proofs.YtamjnninbdnjhaaW.PrintMore Go.Proofs.Ytamjnninbdnjhaa.Pr
abbrev IQ := S71
abbrev LQ := S97
def convQ (x : LQ) : IQ := ⟨⟨x.f0.f0, x.f0.f1⟩, x.f1, x.f2⟩
theorem rdIQ (l : List IQ) (i : Nat) : rd_T71 l (i : Int) = l.getD i z71 := by unfold rd_T71; rw [Int.toNat_natCast]
theorem rdLQ (l : List LQ) (i : Nat) : rd_T97 l (i : Int) = l.getD i z97 := by unfold rd_T97; rw [Int.toNat_natCast]
theorem szQ_more (l : List LQ) (hl : l.length ≤ 9223372036854775807) (a : Int) (h0 : 0 ≤ a) (ha : a ≤ 1048576) : ∃ m : Int, laws_szQuestionS.f l a = some m ∧ (0 ≤ m → l.length ≤ 1048576 ∧ m ≤ 1048576) := by
  unfold laws_szQuestionS.f
  have hw : wrap64 (a - (l.length : Int)) = a - (l.length : Int) := by unfold wrap64; omega
  rw [hw]
  by_cases h : (a - (l.length : Int)) < 0
  · exact ⟨-1, by rw [if_pos h], fun h => absurd h (by decide)⟩
  · exact ⟨_, by rw [if_neg h], fun _ => by omega⟩
theorem szR_more (l : List LR) (hl : l.length ≤ 9223372036854775807) (a : Int) (h0 : 0 ≤ a) (ha : a ≤ 1048576) : ∃ m : Int, laws_szRuleS.f l a = some m ∧ (0 ≤ m → l.length ≤ 1048576 ∧ m ≤ 1048576) := by
  unfold laws_szRuleS.f
  have hw : wrap64 (a - (l.length : Int)) = a - (l.length : Int) := by unfold wrap64; omega
  rw [hw]
  by_cases h : (a - (l.length : Int)) < 0
  · exact ⟨-1, by rw [if_pos h], fun h => absurd h (by decide)⟩
  · exact ⟨_, by rw [if_neg h], fun _ => by omega⟩
theorem szE_val (q : List LQ) (r : List LR) (n : Int) (l : List Int) (hq : q.length ≤ 9223372036854775807) (hr : r.length ≤ 9223372036854775807) (hl : l.length ≤ 9223372036854775807) :
    ∃ m : Int, laws_szExploration.f q r n l 1048576 = some m ∧ (0 ≤ m → q.length ≤ 1048576 ∧ r.length ≤ 1048576 ∧ l.length ≤ 1048576) := by
  unfold laws_szExploration.f
  obtain ⟨a, ha, ha2⟩ := szQ_more q hq 1048576 (by decide) (by decide)
  rw [ha, Option.bind_some]
  by_cases h : a < 0
  · exact ⟨-1, by rw [if_pos h], fun h => absurd h (by decide)⟩
  · have ha3 := ha2 (by omega)
    obtain ⟨b, hb, hb2⟩ := szR_more r hr a (by omega) ha3.2
    rw [if_neg h, hb, Option.bind_some]
    by_cases h' : b < 0
    · exact ⟨-1, by rw [if_pos h'], fun h => absurd h (by decide)⟩
    · have hb3 := hb2 (by omega)
      obtain ⟨c, hc, hc2⟩ := szInt_more l hl b (by omega) hb3.2
      rw [if_neg h']
      unfold laws_szContext.f
      rw [hc, Option.bind_some]
      by_cases h2 : c < 0
      · exact ⟨-1, by rw [if_pos h2]; rfl, fun h => absurd h (by decide)⟩
      · exact ⟨c, by rw [if_neg h2, Option.bind_some, if_neg h2], fun _ => ⟨ha3.1, hb3.1, hc2 (by omega)⟩⟩
theorem toQ_loop (l : List LQ) (hl : l.length ≤ 1048576) : ∀ (rest : List LQ) (i : Nat), l.drop i = rest →
    Ev (fun k => laws_toQuestionS.l0 k l ((l.take i).map convQ ++ List.replicate rest.length z71) (i : Int)) (l.map convQ) := by
  intro rest
  induction rest with
  | nil =>
    intro i h
    have := drop_nil h
    refine Ev.step (f := fun _ => some (l.map convQ)) (fun k => ?_) (Ev.now _)
    simp only [laws_toQuestionS.l0, List.length_nil, List.replicate_zero, List.append_nil]
    rw [if_neg (by omega), List.take_of_length_le (by omega)]
  | cons x rest ih =>
    intro i h
    obtain ⟨hi, hx, hr⟩ := drop_cons (d := z97) h
    have hlen : (l.take i).length = i := by rw [List.length_take]; omega
    have htk : l.take (i + 1) = l.take i ++ [x] := by
      rw [List.take_succ_eq_append_getElem hi]
      rw [List.getD_eq_getElem?_getD, List.getElem?_eq_getElem hi] at hx
      simp only [Option.getD_some] at hx
      rw [hx]
    refine Ev.step (f := fun k => laws_toQuestionS.l0 k l ((l.take (i + 1)).map convQ ++ List.replicate rest.length z71) ((i + 1 : Nat) : Int)) (fun k => ?_) (ih (i + 1) hr)
    simp only [laws_toQuestionS.l0, laws_toQuestion.f, laws_toRule.f, Option.bind_some]
    rw [if_pos (by omega), if_pos (by omega), if_pos (by rw [List.length_append, List.length_map, hlen, List.length_replicate, List.length_cons]; omega), wrap_succ hi (by omega), rdLQ, hx, Int.toNat_natCast, List.length_cons, List.replicate_succ, set_mid _ _ _ _ i (by rw [List.length_map, hlen]), htk, List.map_append, List.append_assoc]
    rfl
theorem toQ_val (l : List LQ) (hl : l.length ≤ 1048576) : Ev (fun k => laws_toQuestionS.f k l) (l.map convQ) := by
  unfold laws_toQuestionS.f
  refine Ev.congr (fun k => by rw [if_pos (by omega), if_pos (by omega), Int.toNat_natCast]) ?_
  exact toQ_loop l hl l 0 rfl
theorem eqQ_loop (l : List IQ) (hl : l.length ≤ 9223372036854775807) : ∀ (rest : List IQ) (i : Nat), l.drop i = rest → Ev (fun k => laws_eqQuestionS.l0 k l l (i : Int)) true := by
  intro rest
  induction rest with
  | nil =>
    intro i h
    have := drop_nil h
    refine Ev.step (f := fun _ => some true) (fun k => ?_) (Ev.now _)
    simp only [laws_eqQuestionS.l0]
    rw [if_neg (by omega)]
  | cons x rest ih =>
    intro i h
    obtain ⟨hi, hx, hr⟩ := drop_cons (d := z71) h
    refine Ev.step (f := fun k => laws_eqQuestionS.l0 k l l ((i + 1 : Nat) : Int)) (fun k => ?_) (ih (i + 1) hr)
    simp only [laws_eqQuestionS.l0, laws_eqQuestion.f, laws_eqRule.f]
    rw [if_pos (by omega), if_pos (by omega), if_pos (by omega), wrap_succ hi hl]
    simp
theorem eqQ_self (l : List IQ) (hl : l.length ≤ 9223372036854775807) : Ev (fun k => laws_eqQuestionS.f k l l) true := by
  unfold laws_eqQuestionS.f
  refine Ev.congr (fun k => ?_) (eqQ_loop l hl l 0 rfl)
  rw [if_pos rfl]
  rfl
theorem toE_val (q : List LQ) (r : List LR) (n : Int) (l : List Int) (hq : q.length ≤ 1048576) (hr : r.length ≤ 1048576) (hl : l.length ≤ 1048576) :
    Ev (fun k => laws_toExploration.f k q r n l) (q.map convQ, r.map conv, n, l) := by
  unfold laws_toExploration.f
  refine Ev.bind (toQ_val q hq) ?_
  refine Ev.bind (toRule_val r hr) ?_
  refine Ev.bind (toC_val n l hl) ?_
  exact Ev.now _
theorem eqE_self (q : List IQ) (r : List IR) (n : Int) (l : List Int) (hq : q.length ≤ 1048576) (hr : r.length ≤ 1048576) (hl : l.length ≤ 1048576) :
    Ev (fun k => laws_eqExploration.f k q r n l q r n l) true := by
  unfold laws_eqExploration.f
  refine Ev.bind (eqQ_self q (by omega)) ?_
  refine Ev.congr (fun k => by rw [if_pos rfl]) ?_
  refine Ev.bind (eqRule_self r (by omega)) ?_
  refine Ev.congr (fun k => by rw [if_pos rfl]) ?_
  refine Ev.bind (eqC_self n l (by omega)) ?_
  exact Ev.congr (fun k => by rw [if_pos rfl]) (Ev.now _)
def cntQ (l : List IQ) : Nat := (l.filter fun x => x.f1).length
theorem cntQ_cons (x : IQ) (l : List IQ) : cntQ (x :: l) = cntQ l + if x.f1 = true then 1 else 0 := by
  unfold cntQ
  by_cases h : x.f1 = true
  · rw [List.filter_cons_of_pos h, List.length_cons, if_pos h]
  · rw [List.filter_cons_of_neg h, if_neg h]
    rfl
theorem cntS_loop (l : List IQ) (r : List IR) (n : Int) (c : List Int) (hl : l.length ≤ 1048576) : ∀ (rest : List IQ) (i a : Nat), l.drop i = rest → a ≤ i → Ev (fun k => spec_CountAccepted.l0 k (a : Int) (i : Int) l r n c) ((a + cntQ rest : Nat) : Int) := by
  intro rest
  induction rest with
  | nil =>
    intro i a h ha
    have := drop_nil h
    refine Ev.step (f := fun _ => some (a : Int)) (fun k => ?_) ?_
    · simp only [spec_CountAccepted.l0]
      rw [if_neg (by omega)]
    · exact Ev.now _
  | cons x rest ih =>
    intro i a h ha
    obtain ⟨hi, hx, hr⟩ := drop_cons (d := z71) h
    rw [cntQ_cons]
    refine Ev.step (f := fun k => spec_CountAccepted.l0 k ((a + if x.f1 = true then 1 else 0 : Nat) : Int) ((i + 1 : Nat) : Int) l r n c) (fun k => ?_) ?_
    · simp only [spec_CountAccepted.l0]
      rw [if_pos (by omega), if_pos (by omega), rdIQ, hx, wrap_succ hi (by omega)]
      unfold spec_l1Bit.f
      cases hb : x.f1 with
      | true =>
        simp only [if_true, Option.bind_some]
        rw [show wrap64 ((a : Int) + 1) = ((a + 1 : Nat) : Int) from by unfold wrap64; omega]
      | false =>
        simp only [Bool.false_eq_true, if_false, Option.bind_some]
        rw [show wrap64 ((a : Int) + 0) = ((a + 0 : Nat) : Int) from by unfold wrap64; omega]
    · have := ih (i + 1) (a + if x.f1 = true then 1 else 0) hr (by split <;> omega)
      rw [show a + (cntQ rest + if x.f1 = true then 1 else 0) = a + (if x.f1 = true then 1 else 0) + cntQ rest from by omega]
      exact this
theorem cntI_loop (l : List IQ) (hl : l.length ≤ 1048576) : ∀ (rest : List IQ) (i a : Nat), l.drop i = rest → a ≤ i → Ev (fun k => impl_CountAccepted.l0 k (a : Int) l (l.length : Int) (i : Int)) ((a + cntQ rest : Nat) : Int) := by
  intro rest
  induction rest with
  | nil =>
    intro i a h ha
    have := drop_nil h
    refine Ev.step (f := fun _ => some (a : Int)) (fun k => ?_) ?_
    · simp only [impl_CountAccepted.l0]
      rw [if_neg (by omega)]
    · exact Ev.now _
  | cons x rest ih =>
    intro i a h ha
    obtain ⟨hi, hx, hr⟩ := drop_cons (d := z71) h
    rw [cntQ_cons]
    refine Ev.step (f := fun k => impl_CountAccepted.l0 k ((a + if x.f1 = true then 1 else 0 : Nat) : Int) l (l.length : Int) ((i + 1 : Nat) : Int)) (fun k => ?_) ?_
    · simp only [impl_CountAccepted.l0]
      rw [if_pos (by omega), if_pos (by omega), if_pos (by omega), rdIQ, hx, wrap_succ hi (by omega)]
      cases hb : x.f1 with
      | true =>
        rw [if_pos rfl, if_pos rfl, show wrap64 ((a : Int) + 1) = ((a + 1 : Nat) : Int) from by unfold wrap64; omega]
      | false =>
        rw [if_neg (by decide), if_neg (by decide)]
        rfl
    · have := ih (i + 1) (a + if x.f1 = true then 1 else 0) hr (by split <;> omega)
      rw [show a + (cntQ rest + if x.f1 = true then 1 else 0) = a + (if x.f1 = true then 1 else 0) + cntQ rest from by omega]
      exact this
theorem cntS_val (q : List IQ) (r : List IR) (n : Int) (l : List Int) (hq : q.length ≤ 1048576) : Ev (fun k => spec_CountAccepted.f k q r n l) ((cntQ q : Nat) : Int) := by
  unfold spec_CountAccepted.f
  have := cntS_loop q r n l hq q 0 0 rfl (Nat.le_refl _)
  rw [Nat.zero_add] at this
  exact this
theorem cntI_val (q : List IQ) (r : List IR) (n : Int) (l : List Int) (hq : q.length ≤ 1048576) : Ev (fun k => impl_CountAccepted.f k q r n l) ((cntQ q : Nat) : Int) := by
  unfold impl_CountAccepted.f
  have := cntI_loop q hq q 0 0 rfl (Nat.le_refl _)
  rw [Nat.zero_add] at this
  exact this
theorem FnExactCountAccepted (x0 : S28) {P : Prop} (_ : P) (hq : x0.f0.length ≤ 9223372036854775807) (hr : x0.f1.length ≤ 9223372036854775807) (hl : x0.f2.f1.length ≤ 9223372036854775807) : ∃ k, laws_FnExactCountAccepted.f k x0.f0 x0.f1 x0.f2.f0 x0.f2.f1 = some true := by
  apply Ev.rounds
  unfold laws_FnExactCountAccepted.f
  obtain ⟨m, hm, hm2⟩ := szE_val x0.f0 x0.f1 x0.f2.f0 x0.f2.f1 hq hr hl
  rw [hm]
  simp only [Option.bind_some]
  by_cases h : m < 0
  · exact Ev.congr (fun k => by rw [if_pos h]) (Ev.now true)
  · obtain ⟨k1, k2, k3⟩ := hm2 (by omega)
    refine Ev.congr (fun k => by rw [if_neg h]) ?_
    refine Ev.bind (toE_val _ _ _ _ k1 k2 k3) ?_
    refine Ev.bind (cntS_val _ _ _ _ (by rw [List.length_map]; omega)) ?_
    refine Ev.bind (toE_val _ _ _ _ k1 k2 k3) ?_
    refine Ev.bind (cntI_val _ _ _ _ (by rw [List.length_map]; omega)) ?_
    refine Ev.congr (fun k => by rw [if_pos rfl]) ?_
    refine Ev.bind (toE_val _ _ _ _ k1 k2 k3) ?_
    refine Ev.bind (eqE_self _ _ _ _ (by rw [List.length_map]; omega) (by rw [List.length_map]; omega) k3) ?_
    exact Ev.congr (fun k => by rw [if_pos rfl]) (Ev.now true)
end Go.Proofs.Ytamjnninbdnjhaa.Pu
namespace Go.Proofs.Ytamjnninbdnjhaa.Op
open Go.RowKit Go.Proofs.YtamjnninbdnjhaaW.PrintWords
open Go.Deep
def Opens {α : Type} (P : Program) (t : TypeId) (d : Kd α) (wf : α → Prop) : Prop :=
  ∀ {H : Type} {enc : TypeId × Value → H} {w : World} {base : Nat} {spare : Nat → Bool} {held : Bool} {fuel : Nat} {cs : List Value} {x : DataW H × List MemPlace},
    DataW.trod enc P w base spare held fuel t cs = some x → ∃ v : α, d.K w v cs ∧ wf v
theorem Opens.int {P : Program} {t : TypeId} {k : IntKind} (ht : P.underlying t = some (.int k)) : Opens P t (Kd.int k) (fun n => (Lit.int k n).wf = true) := by
  intro H enc w base spare held fuel cs x h
  obtain ⟨n, rfl, _, hw⟩ := DataW.trod_int ht h
  exact ⟨n, rfl, hw⟩
theorem Opens.bool {P : Program} {t : TypeId} (ht : P.underlying t = some .bool) : Opens P t Kd.bool (fun _ => True) := by
  intro H enc w base spare held fuel cs x h
  obtain ⟨b, rfl, _⟩ := DataW.trod_bool ht h
  exact ⟨b, rfl, trivial⟩
theorem Opens.iso {α β : Type} {P : Program} {t : TypeId} {d : Kd α} {wf : α → Prop} (h : Opens P t d wf) (f : β → α) (g : α → β) (hfg : ∀ a, f (g a) = a) : Opens P t (Kd.iso d f) (fun b => wf (f b)) := by
  intro H enc w base spare held fuel cs x ht
  obtain ⟨v, hK, hw⟩ := h ht
  refine ⟨g v, ?_, ?_⟩
  · show d.K w (f (g v)) cs
    rw [hfg]; exact hK
  · show wf (f (g v))
    rw [hfg]; exact hw
theorem Opens.struct2 {α β : Type} {P : Program} {t : TypeId} {f0 f1 : Field} {d0 : Kd α} {d1 : Kd β} {w0 : α → Prop} {w1 : β → Prop} (ht : P.underlying t = some (.struct #[f0, f1]))
    (o0 : f0.offset = 0) (c0 : P.cellsOf f0.type = d0.sz) (o1 : f1.offset = d0.sz) (c1 : P.cellsOf f1.type = d1.sz) (ct : P.cellsOf t = d0.sz + d1.sz)
    (h0 : Opens P f0.type d0 w0) (h1 : Opens P f1.type d1 w1) : Opens P t (Kd.pair d0 d1) (fun x => w0 x.1 ∧ w1 x.2) := by
  intro H enc w base spare held fuel cs x h
  obtain ⟨xs, n, _, _, hl, hn, hf⟩ := DataW.trod_struct ht h
  have hn2 : xs.length = 2 := hn
  have a0 := hf 0 f0 rfl
  have a1 := hf 1 f1 rfl
  rw [List.getElem?_eq_getElem (by omega)] at a0 a1
  obtain ⟨v0, k0, q0⟩ := h0 a0
  obtain ⟨v1, k1, q1⟩ := h1 a1
  refine ⟨(v0, v1), ⟨_, _, ?_, k0, k1⟩, q0, q1⟩
  rw [o0, c0, o1, c1, List.drop_zero]
  rw [ct] at hl
  have e : (cs.drop d0.sz).take d1.sz = cs.drop d0.sz := List.take_of_length_le (by rw [List.length_drop]; omega)
  rw [e, List.take_append_drop]
theorem Opens.struct3 {α β γ : Type} {P : Program} {t : TypeId} {f0 f1 f2 : Field} {d0 : Kd α} {d1 : Kd β} {d2 : Kd γ} {w0 : α → Prop} {w1 : β → Prop} {w2 : γ → Prop} (ht : P.underlying t = some (.struct #[f0, f1, f2]))
    (o0 : f0.offset = 0) (c0 : P.cellsOf f0.type = d0.sz) (o1 : f1.offset = d0.sz) (c1 : P.cellsOf f1.type = d1.sz) (o2 : f2.offset = d0.sz + d1.sz) (c2 : P.cellsOf f2.type = d2.sz) (ct : P.cellsOf t = d0.sz + (d1.sz + d2.sz))
    (h0 : Opens P f0.type d0 w0) (h1 : Opens P f1.type d1 w1) (h2 : Opens P f2.type d2 w2) : Opens P t (Kd.pair d0 (Kd.pair d1 d2)) (fun x => w0 x.1 ∧ w1 x.2.1 ∧ w2 x.2.2) := by
  intro H enc w base spare held fuel cs x h
  obtain ⟨xs, n, _, _, hl, hn, hf⟩ := DataW.trod_struct ht h
  have hn2 : xs.length = 3 := hn
  have a0 := hf 0 f0 rfl
  have a1 := hf 1 f1 rfl
  have a2 := hf 2 f2 rfl
  rw [List.getElem?_eq_getElem (by omega)] at a0 a1 a2
  obtain ⟨v0, k0, q0⟩ := h0 a0
  obtain ⟨v1, k1, q1⟩ := h1 a1
  obtain ⟨v2, k2, q2⟩ := h2 a2
  refine ⟨(v0, v1, v2), ⟨_, _, ?_, k0, _, _, rfl, k1, k2⟩, q0, q1, q2⟩
  rw [o0, c0, o1, c1, o2, c2, List.drop_zero]
  rw [ct] at hl
  have e : (cs.drop (d0.sz + d1.sz)).take d2.sz = cs.drop (d0.sz + d1.sz) := List.take_of_length_le (by rw [List.length_drop]; omega)
  rw [e, ← List.drop_drop, List.take_append_drop, List.take_append_drop]
theorem Opens.slice {α : Type} [Inhabited α] {P : Program} {t e : TypeId} {d : Kd α} {wf : α → Prop} (ht : P.underlying t = some (.slice e)) (hc : P.cellsOf e = d.sz) (h : Opens P e d wf) : Opens P t (Kd.slice e d) (fun xs => ∀ x ∈ xs, wf x) := by
  intro H enc w base spare held fuel cs x hx
  rcases open_slice ht hx with ⟨rfl, _⟩ | ⟨a, len, cap, m, n, D, Pl, rfl, hb, hl, hm, hmm, rfl, hel⟩
  · exact ⟨[], ⟨none, 0, rfl, Nat.le_refl _, Kd.C_nil d w⟩, by simp⟩
  · have hlm : len ≤ m := by rw [hmm]; split <;> omega
    obtain ⟨f, hf⟩ := choose_lt (α := α) (n := len) (p := fun i v => ∃ cs', w.cells? base (a.add (i * P.cellsOf e)) (P.cellsOf e) = some cs' ∧ d.K w v cs' ∧ wf v) (fun i hi => by
      obtain ⟨cs', h1, h2⟩ := hel i (by omega)
      obtain ⟨v, hk, hw⟩ := h h2
      exact ⟨v, cs', h1, hk, hw⟩)
    refine ⟨(List.range len).map f, ⟨some a, cap, by simp, by simpa using hl, by simp, by simp only [maxLen] at hm; simp; omega, fun _ => ⟨a, rfl, fun j p hj => ?_⟩⟩, ?_⟩
    · have hjl : j < len := by
        have := (List.getElem?_eq_some_iff.1 hj).1
        simpa using this
      have hp : p = f j := by simpa [hjl] using hj.symm
      subst hp
      obtain ⟨cs', h1, hk, _⟩ := hf j hjl
      obtain ⟨_, hlen, hcell⟩ := World.cells?_some h1
      refine ⟨cs', by rw [hlen, hc], hk, fun i u hu => ?_⟩
      have hi : i < cs'.length := (List.getElem?_eq_some_iff.1 hu).1
      have h2 := hcell i (by omega)
      rw [Go.Deep.add_add] at h2
      rw [← hc, h2, hu]
    · intro y hy
      obtain ⟨j, hj, rfl⟩ := List.mem_map.1 hy
      obtain ⟨_, _, _, hw⟩ := hf j (List.mem_range.1 hj)
      exact hw
end Go.Proofs.Ytamjnninbdnjhaa.Op
