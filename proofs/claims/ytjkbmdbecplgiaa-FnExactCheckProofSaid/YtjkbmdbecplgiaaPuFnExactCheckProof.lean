/- The plain law: the program's CheckProof is the reference's. No condition. -/
import Derived.Test.YtjkbmdbecplgiaaPr10
import Derived.Test.YtjkbmdbecplgiaaPr17
import Derived.Test.YtjkbmdbecplgiaaPr28
import Derived.Test.YtjkbmdbecplgiaaPr7
import Derived.Test.YtjkbmdbecplgiaaPr8
import Derived.Test.YtjkbmdbecplgiaaPr9
import Derived.Test.YtjkbmdbecplgiaaPuLaw
import Derived.Test.YtjkbmdbecplgiaaPuClosed
import Derived.Test.YtjkbmdbecplgiaaPuEquiv
namespace Go.Proofs.Ytjkbmdbecplgiaa.Pu
open Go.RowKit Go.Proofs.YtjkbmdbecplgiaaW.PrintWords Go.Proofs.YtjkbmdbecplgiaaW.PrintLast Go.Proofs.YtjkbmdbecplgiaaW.PrintMore Go.Proofs.Ytjkbmdbecplgiaa.Pr

abbrev IS := S64
abbrev LS := S66
def convS (x : LS) : IS := ⟨x.f0, x.f1⟩
theorem rdIS (l : List IS) (i : Nat) : rd_T64 l (i : Int) = l.getD i z64 := by unfold rd_T64; rw [Int.toNat_natCast]
theorem rdLS (l : List LS) (i : Nat) : rd_T66 l (i : Int) = l.getD i z66 := by unfold rd_T66; rw [Int.toNat_natCast]
theorem szS_more (l : List LS) (hl : l.length ≤ 9223372036854775807) (a : Int) (h0 : 0 ≤ a) (ha : a ≤ 1048576) : ∃ m : Int, laws_szStepS.f l a = some m ∧ (0 ≤ m → l.length ≤ 1048576) := by
  unfold laws_szStepS.f
  have hw : wrap64 (a - (l.length : Int)) = a - (l.length : Int) := by unfold wrap64; omega
  rw [hw]
  by_cases h : (a - (l.length : Int)) < 0
  · exact ⟨-1, by rw [if_pos h], fun h => absurd h (by decide)⟩
  · exact ⟨_, by rw [if_neg h], fun _ => by omega⟩
theorem toStep_loop (l : List LS) (hl : l.length ≤ 1048576) : ∀ (rest : List LS) (i : Nat), l.drop i = rest →
    Ev (fun k => laws_toStepS.l0 k l (((l.take i).map convS) ++ List.replicate rest.length z64) (i : Int)) (l.map convS) := by
  intro rest
  induction rest with
  | nil =>
    intro i h
    have := drop_nil h
    refine Ev.step (f := fun _ => some (l.map convS)) (fun k => ?_) (Ev.now _)
    simp only [laws_toStepS.l0]
    rw [if_neg (by omega), List.take_of_length_le this]
    simp
  | cons x rest ih =>
    intro i h
    obtain ⟨hi, hx, hr⟩ := drop_cons (d := z66) h
    have hlen : l.length = i + (rest.length + 1) := by
      have := congrArg List.length h
      simp at this; omega
    have hti : ((l.take i).map convS).length = i := by simp; omega
    refine Ev.step (f := fun k => laws_toStepS.l0 k l (((l.take (i + 1)).map convS) ++ List.replicate rest.length z64) ((i + 1 : Nat) : Int)) (fun k => ?_) (ih (i + 1) hr)
    simp only [laws_toStepS.l0, laws_toStep.f, Option.bind_some]
    rw [if_pos (by omega), if_pos (by omega), if_pos (by rw [List.length_append, hti, List.length_replicate, List.length_cons]; omega), rdLS, hx, wrap_succ hi (by omega), Int.toNat_natCast]
    congr 1
    rw [List.length_cons, List.replicate_succ, set_mid _ _ _ _ i hti]
    have ht : l.take (i + 1) = l.take i ++ [x] := by
      rw [List.take_succ_eq_append_getElem hi]
      congr 2
      rw [List.getD_eq_getElem?_getD, List.getElem?_eq_getElem hi] at hx
      exact hx
    rw [ht, List.map_append, List.append_assoc]
    rfl
theorem toStep_val (l : List LS) (hl : l.length ≤ 1048576) : Ev (fun k => laws_toStepS.f k l) (l.map convS) := by
  unfold laws_toStepS.f
  refine Ev.congr (fun k => ?_) (toStep_loop l hl l 0 rfl)
  rw [if_pos (by omega), if_pos (by omega)]
  simp
theorem eqStep_loop (l : List IS) (hl : l.length ≤ 9223372036854775807) : ∀ (rest : List IS) (i : Nat), l.drop i = rest → Ev (fun k => laws_eqStepS.l0 k l l (i : Int)) true := by
  intro rest
  induction rest with
  | nil =>
    intro i h
    have := drop_nil h
    refine Ev.step (f := fun _ => some true) (fun k => ?_) (Ev.now _)
    simp only [laws_eqStepS.l0]
    rw [if_neg (by omega)]
  | cons x rest ih =>
    intro i h
    obtain ⟨hi, hx, hr⟩ := drop_cons (d := z64) h
    refine Ev.step (f := fun k => laws_eqStepS.l0 k l l ((i + 1 : Nat) : Int)) (fun k => ?_) (ih (i + 1) hr)
    simp only [laws_eqStepS.l0, laws_eqStep.f]
    rw [if_pos (by omega), if_pos (by omega), if_pos (by omega), wrap_succ hi hl]
    simp
theorem eqStep_self (l : List IS) (hl : l.length ≤ 9223372036854775807) : Ev (fun k => laws_eqStepS.f k l l) true := by
  unfold laws_eqStepS.f
  refine Ev.congr (fun k => ?_) (eqStep_loop l hl l 0 rfl)
  rw [if_pos rfl]
  rfl
/-- is each step right, from a set on? -/
def chkFrom (l : List IR) (b : Nat) : List IS → Nat → Bool
  | [], s => sub b s
  | x :: xs, s => if 0 ≤ x.f0 ∧ x.f0 < l.length then (if sub (toP (l.getD x.f0.toNat z25)).1 s = true ∧ x.f1 = ((s ||| (toP (l.getD x.f0.toNat z25)).2 : Nat) : Int) then chkFrom l b xs (s ||| (toP (l.getD x.f0.toNat z25)).2) else false) else false
def chkV (l : List IR) (r : IR) (st : List IS) : Bool := l.all anyR && (anyR r && chkFrom l (toP r).2 st (toP r).1)
theorem getD_any {l : List IR} (ha : l.all anyR = true) {i : Nat} (hi : i < l.length) : anyR (l.getD i z25) = true := by
  rw [List.getD_eq_getElem?_getD, List.getElem?_eq_getElem hi]
  exact List.all_eq_true.1 ha _ (List.getElem_mem hi)
theorem chkS_loop (l : List IR) (hl : l.length ≤ 9223372036854775807) (ha : l.all anyR = true) (a b : Nat) (hb : b < 256) (st : List IS) (hst : st.length ≤ 9223372036854775807) : ∀ (rest : List IS) (i s : Nat), st.drop i = rest → s < 256 →
    Ev (fun k => spec_CheckProof.l0 k l st (s : Int) (i : Int) (a : Int) (b : Int)) (chkFrom l b rest s) := by
  intro rest
  induction rest with
  | nil =>
    intro i s h hs
    have := drop_nil h
    refine Ev.step (f := fun _ => some (sub b s)) (fun k => ?_) (Ev.now _)
    simp only [spec_CheckProof.l0]
    rw [if_neg (by omega)]
    refine congrArg some ?_
    rw [Bool.eq_iff_iff, beq_iff_eq, and_eq_sub' hb hs]
  | cons x rest ih =>
    intro i s h hs
    obtain ⟨hi, hx, hr⟩ := drop_cons (d := z64) h
    have hw : wrap64 ((l.length : Int) - 1) = (l.length : Int) - 1 := by unfold wrap64; omega
    rw [chkFrom]
    by_cases hn : 0 ≤ x.f0 ∧ x.f0 < l.length
    · rw [if_pos hn]
      obtain ⟨n, hn'⟩ : ∃ n : Nat, x.f0 = (n : Int) := ⟨x.f0.toNat, by omega⟩
      rw [hn', Int.toNat_natCast]
      obtain ⟨e1, e2, h1, h2⟩ := anyR_nat (getD_any ha (show n < l.length by omega))
      generalize hq : toP (l.getD n z25) = q at *
      by_cases hc : sub q.1 s = true ∧ x.f1 = ((s ||| q.2 : Nat) : Int)
      · rw [if_pos hc]
        refine Ev.step (f := fun k => spec_CheckProof.l0 k l st ((s ||| q.2 : Nat) : Int) ((i + 1 : Nat) : Int) (a : Int) (b : Int)) (fun k => ?_) (ih (i + 1) _ hr (or256 hs h2))
        simp only [spec_CheckProof.l0]
        rw [if_pos (by omega), if_pos (by omega), rdIS, hx, hn', l1In_val, Option.bind_some, if_pos (decide_eq_true (by omega)), if_pos (by omega), if_pos (by omega), rdR, e1, e2, if_pos ((and_eq_sub h1 hs).2 hc.1), or_nat (by omega) (by omega), if_pos hc.2, hc.2, wrap_succ hi hst]
      · rw [if_neg hc]
        refine Ev.step (f := fun _ => some false) (fun k => ?_) (Ev.now _)
        simp only [spec_CheckProof.l0]
        rw [if_pos (by omega), if_pos (by omega), rdIS, hx, hn', l1In_val, Option.bind_some, if_pos (decide_eq_true (by omega)), if_pos (by omega), if_pos (by omega), rdR, e1, e2, or_nat (by omega) (by omega)]
        by_cases hd : sub q.1 s = true
        · rw [if_pos ((and_eq_sub h1 hs).2 hd), if_neg (fun e => hc ⟨hd, e⟩)]
        · rw [if_neg (fun e => hd ((and_eq_sub h1 hs).1 e))]
    · rw [if_neg hn]
      refine Ev.step (f := fun _ => some false) (fun k => ?_) (Ev.now _)
      simp only [spec_CheckProof.l0]
      rw [if_pos (by omega), if_pos (by omega), rdIS, hx, l1In_val, Option.bind_some, hw, if_neg (by rw [decide_eq_true_iff]; omega)]
theorem chkI_loop (l : List IR) (hl : l.length ≤ 9223372036854775807) (ha : l.all anyR = true) (a b : Nat) (hb : b < 256) (st : List IS) (hst : st.length ≤ 9223372036854775807) : ∀ (rest : List IS) (i s : Nat), st.drop i = rest → s < 256 →
    Ev (fun k => impl_CheckProof.l0 k l (s : Int) st (st.length : Int) (i : Int) (a : Int) (b : Int)) (chkFrom l b rest s) := by
  intro rest
  induction rest with
  | nil =>
    intro i s h hs
    have := drop_nil h
    refine Ev.step (f := fun _ => some (sub b s)) (fun k => ?_) (Ev.now _)
    simp only [impl_CheckProof.l0]
    rw [if_neg (by omega), inSet_val hb hs, Option.bind_some]
  | cons x rest ih =>
    intro i s h hs
    obtain ⟨hi, hx, hr⟩ := drop_cons (d := z64) h
    have hw : wrap64 ((l.length : Int) - 1) = (l.length : Int) - 1 := by unfold wrap64; omega
    rw [chkFrom]
    by_cases hn : 0 ≤ x.f0 ∧ x.f0 < l.length
    · rw [if_pos hn]
      obtain ⟨n, hn'⟩ : ∃ n : Nat, x.f0 = (n : Int) := ⟨x.f0.toNat, by omega⟩
      rw [hn', Int.toNat_natCast]
      obtain ⟨e1, e2, h1, h2⟩ := anyR_nat (getD_any ha (show n < l.length by omega))
      generalize hq : toP (l.getD n z25) = q at *
      by_cases hc : sub q.1 s = true ∧ x.f1 = ((s ||| q.2 : Nat) : Int)
      · rw [if_pos hc]
        refine Ev.step (f := fun k => impl_CheckProof.l0 k l ((s ||| q.2 : Nat) : Int) st (st.length : Int) ((i + 1 : Nat) : Int) (a : Int) (b : Int)) (fun k => ?_) (ih (i + 1) _ hr (or256 hs h2))
        simp only [impl_CheckProof.l0]
        rw [if_pos (by omega), if_pos (by omega), if_pos (by omega), rdIS, hx, hn', within_val, Option.bind_some, if_pos (decide_eq_true (by omega)), if_pos (by omega), if_pos (by omega), rdR, e1, e2, inSet_val h1 hs, Option.bind_some, hc.1, if_pos rfl, or_nat (by omega) (by omega), if_pos hc.2, hc.2, wrap_succ hi hst]
      · rw [if_neg hc]
        refine Ev.step (f := fun _ => some false) (fun k => ?_) (Ev.now _)
        simp only [impl_CheckProof.l0]
        rw [if_pos (by omega), if_pos (by omega), if_pos (by omega), rdIS, hx, hn', within_val, Option.bind_some, if_pos (decide_eq_true (by omega)), if_pos (by omega), if_pos (by omega), rdR, e1, e2, inSet_val h1 hs, Option.bind_some, or_nat (by omega) (by omega)]
        cases hd : sub q.1 s with
        | true => rw [if_pos rfl, if_neg (fun e => hc ⟨hd, e⟩)]
        | false => rw [if_neg (by decide)]
    · rw [if_neg hn]
      refine Ev.step (f := fun _ => some false) (fun k => ?_) (Ev.now _)
      simp only [impl_CheckProof.l0]
      rw [if_pos (by omega), if_pos (by omega), if_pos (by omega), rdIS, hx, within_val, Option.bind_some, hw, if_neg (by rw [decide_eq_true_iff]; omega)]
theorem chkS_val (l : List IR) (hl : l.length ≤ 9223372036854775807) (a b : Int) (st : List IS) (hst : st.length ≤ 9223372036854775807) : Ev (fun k => spec_CheckProof.f k l a b st) (chkV l ⟨a, b⟩ st) := by
  unfold spec_CheckProof.f chkV
  rw [rule_val, isSetB_8, isSetB_8, show (isAny a && isAny b) = anyR ⟨a, b⟩ from rfl]
  refine Ev.bind (sets_val l hl) ?_
  cases ha : l.all anyR with
  | false => exact Ev.congr (fun k => by rw [if_neg (by decide)]) (Ev.step (g := fun k => spec_CheckProof.j0 k l st true a b) (f := fun _ => some false) (fun k => by simp only [spec_CheckProof.j0, if_true]) (Ev.now _))
  | true =>
    refine Ev.congr (fun k => by rw [if_pos rfl, Option.bind_some]) ?_
    cases hr : anyR ⟨a, b⟩ with
    | false => exact Ev.step (g := fun k => spec_CheckProof.j0 k l st true a b) (f := fun _ => some false) (fun k => by simp only [spec_CheckProof.j0, if_true]) (Ev.now _)
    | true =>
      obtain ⟨h1, h2, h3, h4⟩ := anyR_nat hr
      have e1 : a = ((toP ⟨a, b⟩).1 : Int) := h1
      have e2 : b = ((toP ⟨a, b⟩).2 : Int) := h2
      generalize (toP ⟨a, b⟩).1 = x at *
      generalize (toP ⟨a, b⟩).2 = y at *
      subst e1 e2
      refine Ev.step (g := fun k => spec_CheckProof.j0 k l st false (x : Int) (y : Int)) (f := fun k => spec_CheckProof.l0 k l st (x : Int) ((0 : Nat) : Int) (x : Int) (y : Int)) (fun k => by simp only [spec_CheckProof.j0]; rw [if_neg (by decide)]; rfl) ?_
      exact chkS_loop l hl ha x y h4 st hst st 0 x rfl h3
theorem chkI_val (l : List IR) (hl : l.length ≤ 9223372036854775807) (a b : Int) (st : List IS) (hst : st.length ≤ 9223372036854775807) : Ev (fun k => impl_CheckProof.f k l a b st) (chkV l ⟨a, b⟩ st) := by
  unfold impl_CheckProof.f impl_areAnyRules.f chkV
  simp only [Option.bind_some]
  rw [show ([(⟨a, b⟩ : IR)].all anyR) = anyR ⟨a, b⟩ from by simp]
  cases ha : l.all anyR with
  | false => exact Ev.congr (fun k => by rw [if_neg (by decide)]) (Ev.step (g := fun k => impl_CheckProof.j0 k l st true a b) (f := fun _ => some false) (fun k => by simp only [impl_CheckProof.j0, if_true]) (Ev.now _))
  | true =>
    refine Ev.congr (fun k => by rw [if_pos rfl]) ?_
    cases hr : anyR ⟨a, b⟩ with
    | false => exact Ev.step (g := fun k => impl_CheckProof.j0 k l st true a b) (f := fun _ => some false) (fun k => by simp only [impl_CheckProof.j0, if_true]) (Ev.now _)
    | true =>
      obtain ⟨h1, h2, h3, h4⟩ := anyR_nat hr
      have e1 : a = ((toP ⟨a, b⟩).1 : Int) := h1
      have e2 : b = ((toP ⟨a, b⟩).2 : Int) := h2
      generalize (toP ⟨a, b⟩).1 = x at *
      generalize (toP ⟨a, b⟩).2 = y at *
      subst e1 e2
      refine Ev.step (g := fun k => impl_CheckProof.j0 k l st false (x : Int) (y : Int)) (f := fun k => impl_CheckProof.l0 k l (x : Int) st (st.length : Int) ((0 : Nat) : Int) (x : Int) (y : Int)) (fun k => by simp only [impl_CheckProof.j0]; rw [if_neg (by decide)]; rfl) ?_
      exact chkI_loop l hl ha x y h4 st hst st 0 x rfl h3
theorem FnExactCheckProof (l : List LR) (x : LR) (st : List LS) (hl : l.length ≤ 9223372036854775807) (_ : ∀ x ∈ l, (Lit.int .i64 x.f0).wf = true ∧ (Lit.int .i64 x.f1).wf = true) (_ : (Lit.int .i64 x.f0).wf = true ∧ (Lit.int .i64 x.f1).wf = true) (hst : st.length ≤ 9223372036854775807) (_ : ∀ x ∈ st, (Lit.int .i64 x.f0).wf = true ∧ (Lit.int .i64 x.f1).wf = true) : ∃ k, laws_FnExactCheckProof.f k l x.f0 x.f1 st = some true := by
  apply Ev.rounds
  unfold laws_FnExactCheckProof.f
  obtain ⟨m, hm, hm2⟩ := sz_val l hl
  rw [hm]
  simp only [laws_toRule.f, Option.bind_some]
  by_cases h : m < 0
  · exact Ev.congr (fun k => by rw [if_pos h]) (Ev.now true)
  · have hle := hm2 (by omega)
    obtain ⟨m', hm', hm2'⟩ := szS_more st hst m (by omega) (sz_le hm hl)
    rw [hm']
    simp only [Option.bind_some]
    refine Ev.congr (fun k => by rw [if_neg h]) ?_
    by_cases h' : m' < 0
    · exact Ev.congr (fun k => by rw [if_pos h']) (Ev.now true)
    · have hle' := hm2' (by omega)
      have hc : (l.map conv).length ≤ 9223372036854775807 := by rw [List.length_map]; omega
      have hc' : (st.map convS).length ≤ 9223372036854775807 := by rw [List.length_map]; omega
      refine Ev.congr (fun k => by rw [if_neg h']) ?_
      refine Ev.bind (toRule_val l hle) ?_
      refine Ev.bind (toStep_val st hle') ?_
      refine Ev.bind (chkS_val _ hc _ _ _ hc') ?_
      refine Ev.bind (toRule_val l hle) ?_
      refine Ev.bind (toStep_val st hle') ?_
      refine Ev.bind (chkI_val _ hc _ _ _ hc') ?_
      refine Ev.congr (fun k => by rw [if_neg (by simp)]) ?_
      refine Ev.bind (toRule_val l hle) ?_
      refine Ev.bind (eqRule_self _ hc) ?_
      refine Ev.congr (fun k => by rw [if_pos rfl]) ?_
      refine Ev.bind (toStep_val st hle') ?_
      refine Ev.bind (eqStep_self _ hc') ?_
      exact Ev.congr (fun k => by rw [if_pos rfl]) (Ev.now true)
end Go.Proofs.Ytjkbmdbecplgiaa.Pu
