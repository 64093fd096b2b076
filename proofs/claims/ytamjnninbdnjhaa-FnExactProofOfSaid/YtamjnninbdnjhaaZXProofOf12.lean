/- What the law needs of the program's functions as plain functions, of the proofs that their calls answer so, and of plain laws: gathered by a program of this place (pack.py) out of its printed texts. No condition beyond what each statement says. -/
import Derived.Test.YtamjnninbdnjhaaZXProofOf6
import Derived.Test.YtamjnninbdnjhaaZXProofOf11
import Derived.Test.YtamjnninbdnjhaaZXProofOf9
import Derived.Test.YtamjnninbdnjhaaZXProofOf10
namespace Go.Proofs.Ytamjnninbdnjhaa.Pu
open Go.RowKit Go.Proofs.YtamjnninbdnjhaaW.PrintWords Go.Proofs.YtamjnninbdnjhaaW.PrintLast Go.Proofs.YtamjnninbdnjhaaW.PrintMore Go.Proofs.Ytamjnninbdnjhaa.Pr
def respV (r : IR) (s : Int) : Bool := anyR r && isAny s && (!sub (toP r).1 s.toNat || sub (toP r).2 s.toNat)
theorem respS_val (a b s : Int) : spec_Respects.f a b s = some (respV ⟨a, b⟩ s) := by
  unfold spec_Respects.f
  rw [rule_val, Option.bind_some, isSetB_8, isSetB_8, specSet_val, Option.bind_some, isSetB_8]
  unfold respV
  rw [show (isAny a && isAny b) = anyR ⟨a, b⟩ from rfl]
  cases h : anyR ⟨a, b⟩ with
  | false => rfl
  | true =>
    obtain ⟨h1, h2, h3, h4⟩ := anyR_nat h
    cases hs : isAny s with
    | false => rfl
    | true =>
      obtain ⟨n, hn, rfl⟩ := isAny_nat hs
      have e1 : a = ((toP ⟨a, b⟩).1 : Int) := h1
      have e2 : b = ((toP ⟨a, b⟩).2 : Int) := h2
      generalize (toP ⟨a, b⟩).1 = x at *
      generalize (toP ⟨a, b⟩).2 = y at *
      subst e1 e2
      rw [if_pos rfl, if_pos rfl, Int.toNat_natCast]
      cases hx : sub x n with
      | false => rw [if_neg (by rw [and_eq_sub h3 hn, hx]; decide)]; rfl
      | true =>
        rw [if_pos ((and_eq_sub h3 hn).2 hx)]
        refine congrArg some ?_
        rw [Bool.eq_iff_iff, beq_iff_eq, and_eq_sub h4 hn]
        simp
theorem respI_val (a b s : Int) : impl_Respects.f a b s = some (respV ⟨a, b⟩ s) := by
  unfold impl_Respects.f impl_areAnyRules.f
  rw [Option.bind_some, any_val, Option.bind_some]
  unfold respV
  rw [show ([(⟨a, b⟩ : IR)].all anyR) = anyR ⟨a, b⟩ from by simp]
  cases h : anyR ⟨a, b⟩ with
  | false => rfl
  | true =>
    obtain ⟨h1, h2, h3, h4⟩ := anyR_nat h
    cases hs : isAny s with
    | false => rfl
    | true =>
      obtain ⟨n, hn, rfl⟩ := isAny_nat hs
      have e1 : a = ((toP ⟨a, b⟩).1 : Int) := h1
      have e2 : b = ((toP ⟨a, b⟩).2 : Int) := h2
      generalize (toP ⟨a, b⟩).1 = x at *
      generalize (toP ⟨a, b⟩).2 = y at *
      subst e1 e2
      rw [if_pos rfl, if_pos rfl, Int.toNat_natCast, inSet_val h3 hn, Option.bind_some, inSet_val h4 hn, Option.bind_some]
      cases sub x n <;> simp
end Go.Proofs.Ytamjnninbdnjhaa.Pu
namespace Go.Proofs.Ytamjnninbdnjhaa.Pu
open Go.RowKit Go.Proofs.YtamjnninbdnjhaaW.PrintWords Go.Proofs.YtamjnninbdnjhaaW.PrintLast Go.Proofs.YtamjnninbdnjhaaW.PrintMore Go.Proofs.Ytamjnninbdnjhaa.Pr
theorem anyR_rest {l rest : List IR} {i : Nat} {x : IR} (h : l.drop i = x :: rest) (ha : l.all anyR = true) : anyR x = true :=
  List.all_eq_true.1 ha x (List.mem_of_mem_drop (i := i) (by rw [h]; exact List.mem_cons_self))
theorem stepI_loop (l : List IR) (hl : l.length ≤ 9223372036854775807) (ha : l.all anyR = true) (s : Nat) (hs : s < 256) : ∀ (rest : List IR) (i out : Nat), l.drop i = rest → out < 256 →
    Ev (fun k => impl_OneStep.l0 k (s : Int) (out : Int) l (l.length : Int) (i : Int)) (((toR rest).foldl (fun o r => if sub r.1 s then o ||| r.2 else o) out : Nat) : Int) := by
  intro rest
  induction rest with
  | nil =>
    intro i out h ho
    have := drop_nil h
    refine Ev.step (f := fun _ => some (out : Int)) (fun k => ?_) (Ev.now _)
    simp only [impl_OneStep.l0]
    rw [if_neg (by omega)]
  | cons x rest ih =>
    intro i out h ho
    obtain ⟨hi, hx, hr⟩ := drop_cons (d := z46) h
    obtain ⟨e1, e2, h1, h2⟩ := anyR_nat (anyR_rest h ha)
    rw [show toR (x :: rest) = toP x :: toR rest from rfl, List.foldl_cons]
    cases hc : sub (toP x).1 s with
    | true =>
      refine Ev.step (f := fun k => impl_OneStep.l0 k (s : Int) ((out ||| (toP x).2 : Nat) : Int) l (l.length : Int) ((i + 1 : Nat) : Int)) (fun k => ?_) (ih (i + 1) (out ||| (toP x).2) hr (or256 ho h2))
      simp only [impl_OneStep.l0]
      rw [if_pos (by omega), if_pos (by omega), if_pos (by omega), rdR, hx, e1, e2, inSet_val h1 hs, hc, Option.bind_some, if_pos rfl, or_nat (by omega) (by omega), wrap_succ hi hl]
    | false =>
      refine Ev.step (f := fun k => impl_OneStep.l0 k (s : Int) (out : Int) l (l.length : Int) ((i + 1 : Nat) : Int)) (fun k => ?_) (ih (i + 1) out hr ho)
      simp only [impl_OneStep.l0]
      rw [if_pos (by omega), if_pos (by omega), if_pos (by omega), rdR, hx, e1, inSet_val h1 hs, hc, Option.bind_some, if_neg (by decide), wrap_succ hi hl]
/-- what one step answers, for whatever arguments -/
def stepV (l : List IR) (s : Int) : Int := if l.all anyR && isAny s then ((step (toR l) s.toNat : Nat) : Int) else s
theorem oneI_val (l : List IR) (hl : l.length ≤ 9223372036854775807) (s : Int) : Ev (fun k => impl_OneStep.f k l s) (stepV l s) := by
  unfold impl_OneStep.f impl_areAnyRules.f stepV
  rw [any_val]
  simp only [Option.bind_some]
  cases hs : isAny s with
  | false =>
    rw [Bool.and_false]
    refine Ev.congr (fun k => ?_) (Ev.step (f := fun _ => some s) (g := fun k => impl_OneStep.j0 k l s true) (fun k => ?_) (Ev.now s))
    · rw [if_neg (by decide)]
    · simp only [impl_OneStep.j0, if_true]
  | true =>
    obtain ⟨n, hn, rfl⟩ := isAny_nat hs
    cases ha : l.all anyR with
    | false =>
      refine Ev.congr (fun k => ?_) (Ev.step (f := fun _ => some (n : Int)) (g := fun k => impl_OneStep.j0 k l (n : Int) true) (fun k => ?_) (Ev.now _))
      · rw [if_pos rfl]; rfl
      · simp only [impl_OneStep.j0, if_true]
    | true =>
      rw [Bool.and_true, if_pos rfl, Int.toNat_natCast]
      refine Ev.congr (fun k => ?_) (Ev.step (g := fun k => impl_OneStep.j0 k l (n : Int) false) (fun k => ?_) (stepI_loop l hl ha n hn l 0 n rfl hn))
      · rw [if_pos rfl]; rfl
      · simp only [impl_OneStep.j0]; rw [if_neg (by decide)]; rfl
theorem clS_inner (l : List IR) (hl : l.length ≤ 9223372036854775807) (ha : l.all anyR = true) (res : Int) : ∀ (rest : List IR) (i s : Nat) (ch : Bool), l.drop i = rest → s < 256 →
    Ev (fun k => spec_l9Closed.l0 k l (((sweep (toR rest) (s, ch)).1 : Nat) : Int) (sweep (toR rest) (s, ch)).2) res → Ev (fun k => spec_l9Closed.l1 k l (s : Int) ch (i : Int)) res := by
  intro rest
  induction rest with
  | nil =>
    intro i s ch h hs he
    have := drop_nil h
    refine Ev.step (fun k => ?_) he
    simp only [spec_l9Closed.l1]
    rw [if_neg (by omega)]
    rfl
  | cons x rest ih =>
    intro i s ch h hs he
    obtain ⟨hi, hx, hr⟩ := drop_cons (d := z46) h
    obtain ⟨e1, e2, h1, h2⟩ := anyR_nat (anyR_rest h ha)
    rw [show sweep (toR (x :: rest)) (s, ch) = sweep (toR rest) (if sub (toP x).1 s && !sub (toP x).2 s then (s ||| (toP x).2, true) else (s, ch)) from rfl] at he
    cases hc : sub (toP x).1 s with
    | false =>
      rw [hc, Bool.false_and, if_neg (by decide)] at he
      refine Ev.step (fun k => ?_) (ih (i + 1) s ch hr hs he)
      simp only [spec_l9Closed.l1]
      rw [if_pos (by omega), if_pos (by omega), rdR, hx, e1, if_neg (by rw [and_eq_sub h1 hs, hc]; decide), wrap_succ hi hl]
    | true =>
      cases hd : sub (toP x).2 s with
      | true =>
        rw [hc, hd, if_neg (by decide)] at he
        refine Ev.step (fun k => ?_) (ih (i + 1) s ch hr hs he)
        simp only [spec_l9Closed.l1]
        rw [if_pos (by omega), if_pos (by omega), rdR, hx, e1, e2, if_pos ((and_eq_sub h1 hs).2 hc), if_pos ((and_eq_sub h2 hs).2 hd), wrap_succ hi hl]
      | false =>
        rw [hc, hd, if_pos (by decide)] at he
        refine Ev.step (fun k => ?_) (ih (i + 1) (s ||| (toP x).2) true hr (or256 hs h2) he)
        simp only [spec_l9Closed.l1]
        rw [if_pos (by omega), if_pos (by omega), rdR, hx, e1, e2, if_pos ((and_eq_sub h1 hs).2 hc), if_neg (by rw [and_eq_sub h2 hs, hd]; decide), or_nat (by omega) (by omega), wrap_succ hi hl]
theorem clS_loop (l : List IR) (hl : l.length ≤ 9223372036854775807) (ha : l.all anyR = true) : ∀ (d s : Nat), s < 256 → 256 - s ≤ d → Ev (fun k => spec_l9Closed.l0 k l (s : Int) true) ((clo (toR l) s : Nat) : Int) := by
  have hR := toR_small ha
  intro d
  induction d with
  | zero => intro s hs hd; omega
  | succ d ih =>
    intro s hs hd
    refine Ev.step (g := fun k => spec_l9Closed.l0 k l (s : Int) true) (f := fun k => spec_l9Closed.l1 k l (s : Int) false ((0 : Nat) : Int)) (fun k => by simp only [spec_l9Closed.l0, if_true]; rfl) ?_
    refine clS_inner l hl ha _ l 0 s false rfl hs ?_
    obtain ⟨a, b, c, e, f⟩ := sweep_spec (toR l) (s, false)
    have hlt := b (fun r hr => (hR r hr).2) hs
    generalize hq : sweep (toR l) (s, false) = q at *
    obtain ⟨s', ch'⟩ := q
    cases ch' with
    | false =>
      obtain ⟨_, h2, h3⟩ := e rfl
      have h2' : s' = s := h2
      subst h2'
      rw [(clo_fix hR hs).2 h3]
      exact Ev.step (f := fun _ => some (s' : Int)) (fun k => by simp only [spec_l9Closed.l0]; rw [if_neg (by decide)]) (Ev.now _)
    | true =>
      have hgt : s < s' := f rfl rfl
      have := ih s' hlt (by omega)
      rwa [clo_of_between hR hs hlt a c] at this
theorem clS_val (l : List IR) (hl : l.length ≤ 9223372036854775807) (ha : l.all anyR = true) (s : Nat) (hs : s < 256) : Ev (fun k => spec_l9Closed.f k l (s : Int)) ((clo (toR l) s : Nat) : Int) := clS_loop l hl ha _ s hs (Nat.le_refl _)
def cloV (l : List IR) (s : Int) : Int := if l.all anyR && isAny s then ((clo (toR l) s.toNat : Nat) : Int) else s
theorem stepV_nat {l : List IR} (ha : l.all anyR = true) {s : Nat} (hs : s < 256) : stepV l (s : Int) = ((step (toR l) s : Nat) : Int) := by
  unfold stepV
  rw [ha, show isAny (s : Int) = true from decide_eq_true (by omega), if_pos (by decide), Int.toNat_natCast]
theorem clI_loop (l : List IR) (hl : l.length ≤ 9223372036854775807) (ha : l.all anyR = true) : ∀ (d s : Nat), s < 256 → 256 - s ≤ d → Ev (fun k => impl_ClosedBy.l0 k l (s : Int) ((step (toR l) s : Nat) : Int)) ((clo (toR l) s : Nat) : Int) := by
  have hR := toR_small ha
  intro d
  induction d with
  | zero => intro s hs hd; omega
  | succ d ih =>
    intro s hs hd
    have hlt := step_lt hR hs
    by_cases e : step (toR l) s = s
    · refine Ev.step (f := fun _ => some (s : Int)) (fun k => ?_) ?_
      · simp only [impl_ClosedBy.l0]; rw [if_pos (by rw [e])]
      · rw [(clo_fix hR hs).2 (step_fix.1 e)]; exact Ev.now _
    · have hgt : s < step (toR l) s := by have := sub_le (sub_step (toR l) s); omega
      refine Ev.step (f := fun k => (impl_OneStep.f k l ((step (toR l) s : Nat) : Int)).bind fun t => impl_ClosedBy.l0 k l ((step (toR l) s : Nat) : Int) t) (fun k => ?_) ?_
      · simp only [impl_ClosedBy.l0]; rw [if_neg (by omega)]
      · refine Ev.bind (oneI_val l hl _) ?_
        rw [stepV_nat ha hlt, ← clo_step hR hs]
        exact ih _ hlt (by omega)
theorem closedI_val (l : List IR) (hl : l.length ≤ 9223372036854775807) (s : Int) : Ev (fun k => impl_ClosedBy.f k l s) (cloV l s) := by
  unfold impl_ClosedBy.f impl_areAnyRules.f cloV
  rw [any_val]
  simp only [Option.bind_some]
  cases hs : isAny s with
  | false =>
    rw [Bool.and_false]
    refine Ev.congr (fun k => ?_) (Ev.step (f := fun _ => some s) (g := fun k => impl_ClosedBy.j0 k l s true) (fun k => ?_) (Ev.now s))
    · rw [if_neg (by decide)]
    · simp only [impl_ClosedBy.j0, if_true]
  | true =>
    obtain ⟨n, hn, rfl⟩ := isAny_nat hs
    cases ha : l.all anyR with
    | false =>
      refine Ev.congr (fun k => ?_) (Ev.step (f := fun _ => some (n : Int)) (g := fun k => impl_ClosedBy.j0 k l (n : Int) true) (fun k => ?_) (Ev.now _))
      · rw [if_pos rfl]; rfl
      · simp only [impl_ClosedBy.j0, if_true]
    | true =>
      rw [Bool.and_true, if_pos rfl, Int.toNat_natCast]
      refine Ev.congr (fun k => ?_) (Ev.step (g := fun k => impl_ClosedBy.j0 k l (n : Int) false) (f := fun k => (impl_OneStep.f k l (n : Int)).bind fun t => impl_ClosedBy.l0 k l (n : Int) t) (fun k => ?_) ?_)
      · rw [if_pos rfl]; rfl
      · simp only [impl_ClosedBy.j0]; rw [if_neg (by decide)]
      · refine Ev.bind (oneI_val l hl _) ?_
        rw [stepV_nat ha hn]
        exact clI_loop l hl ha _ n hn (Nat.le_refl _)
/-- does a rule follow from rules? -/
def folV (l : List IR) (r : IR) : Bool := l.all anyR && (anyR r && sub (toP r).2 (clo (toR l) (toP r).1))
theorem cloV_nat {l : List IR} (ha : l.all anyR = true) {s : Nat} (hs : s < 256) : cloV l (s : Int) = ((clo (toR l) s : Nat) : Int) := by
  unfold cloV
  rw [ha, show isAny (s : Int) = true from decide_eq_true (by omega), if_pos (by decide), Int.toNat_natCast]
theorem folS_val (l : List IR) (hl : l.length ≤ 9223372036854775807) (a b : Int) : Ev (fun k => spec_Follows.f k l a b) (folV l ⟨a, b⟩) := by
  unfold spec_Follows.f folV
  rw [rule_val, isSetB_8, isSetB_8, show (isAny a && isAny b) = anyR ⟨a, b⟩ from rfl]
  refine Ev.bind (sets_val l hl) ?_
  cases ha : l.all anyR with
  | false => exact Ev.congr (fun k => by rw [if_neg (by decide)]; rfl) (Ev.now _)
  | true =>
    cases hr : anyR ⟨a, b⟩ with
    | false => exact Ev.congr (fun k => by rw [if_pos rfl, Option.bind_some, if_neg (by decide)]; rfl) (Ev.now _)
    | true =>
      obtain ⟨h1, h2, h3, h4⟩ := anyR_nat hr
      have e1 : a = ((toP ⟨a, b⟩).1 : Int) := h1
      have e2 : b = ((toP ⟨a, b⟩).2 : Int) := h2
      generalize (toP ⟨a, b⟩).1 = x at *
      generalize (toP ⟨a, b⟩).2 = y at *
      subst e1 e2
      refine Ev.congr (fun k => by rw [if_pos rfl, Option.bind_some, if_pos rfl]) ?_
      refine Ev.bind (clS_val l hl ha x h3) ?_
      refine Ev.congr (fun k => congrArg some ?_) (Ev.now _)
      have hlt := (clo_spec (toR_small ha) h3).1
      rw [and_nat (by omega) (by omega), Nat.and_comm, ← and_nat (by omega) (by omega), Bool.eq_iff_iff, beq_iff_eq, and_eq_sub h4 hlt]
      simp
theorem folI_val (l : List IR) (hl : l.length ≤ 9223372036854775807) (a b : Int) : Ev (fun k => impl_Follows.f k l a b) (folV l ⟨a, b⟩) := by
  unfold impl_Follows.f impl_areAnyRules.f folV
  simp only [Option.bind_some]
  rw [show ([(⟨a, b⟩ : IR)].all anyR) = anyR ⟨a, b⟩ from by simp]
  cases ha : l.all anyR with
  | false => exact Ev.congr (fun k => by rw [if_neg (by decide)]; rfl) (Ev.now _)
  | true =>
    cases hr : anyR ⟨a, b⟩ with
    | false => exact Ev.congr (fun k => by rw [if_pos rfl, if_neg (by decide)]; rfl) (Ev.now _)
    | true =>
      obtain ⟨h1, h2, h3, h4⟩ := anyR_nat hr
      have e1 : a = ((toP ⟨a, b⟩).1 : Int) := h1
      have e2 : b = ((toP ⟨a, b⟩).2 : Int) := h2
      generalize (toP ⟨a, b⟩).1 = x at *
      generalize (toP ⟨a, b⟩).2 = y at *
      subst e1 e2
      refine Ev.congr (fun k => by rw [if_pos rfl, if_pos rfl]) ?_
      refine Ev.bind (closedI_val l hl _) ?_
      have hlt := (clo_spec (toR_small ha) h3).1
      rw [cloV_nat ha h3]
      exact Ev.congr (fun k => by rw [inSet_val h4 hlt, Option.bind_some]; rfl) (Ev.now _)
end Go.Proofs.Ytamjnninbdnjhaa.Pu
