/- Functions of the program as plain functions, proofs that their calls answer so, and plain laws: what the law needs. No condition beyond what each statement says. -/
import Derived.Test.YtafnamchckehmaaGreatDoorZFnInference12
namespace Go.Proofs.YtafnamchckehmaaGreatDoor.Pu
open Go.RowKit Go.Proofs.YtafnamchckehmaaGreatDoorW.PrintWords Go.Proofs.YtafnamchckehmaaGreatDoorW.PrintLast Go.Proofs.YtafnamchckehmaaGreatDoorW.PrintMore Go.Proofs.YtafnamchckehmaaGreatDoor.Pr
theorem anyR_rest {l rest : List IR} {i : Nat} {x : IR} (h : l.drop i = x :: rest) (ha : l.all anyR = true) : anyR x = true :=
  List.all_eq_true.1 ha x (List.mem_of_mem_drop (i := i) (by rw [h]; exact List.mem_cons_self))
theorem stepI_loop (l : List IR) (hl : l.length ≤ 9223372036854775807) (ha : l.all anyR = true) (s : Nat) (hs : s < 256) : ∀ (rest : List IR) (i out : Nat), l.drop i = rest → out < 256 →
    Ev (fun k => impl_OneStep.l0 k (s : Int) (out : Int) l (l.length : Int) (i : Int)) (((toR rest).foldl (fun o r => if sub r.1 s then o ||| r.2 else o) out : Nat) : Int) := by
  intro rest
  induction rest with
  | nil =>
    intro i out h ho
    have := drop_nil h
    refine Ev.step (f := fun _ => some (out : Int)) (fun k => ?_) (Ev.now _)
    simp only [impl_OneStep.l0]
    rw [if_neg (by omega)]
  | cons x rest ih =>
    intro i out h ho
    obtain ⟨hi, hx, hr⟩ := drop_cons (d := z48) h
    obtain ⟨e1, e2, h1, h2⟩ := anyR_nat (anyR_rest h ha)
    rw [show toR (x :: rest) = toP x :: toR rest from rfl, List.foldl_cons]
    cases hc : sub (toP x).1 s with
    | true =>
      refine Ev.step (f := fun k => impl_OneStep.l0 k (s : Int) ((out ||| (toP x).2 : Nat) : Int) l (l.length : Int) ((i + 1 : Nat) : Int)) (fun k => ?_) (ih (i + 1) (out ||| (toP x).2) hr (or256 ho h2))
      simp only [impl_OneStep.l0]
      rw [if_pos (by omega), if_pos (by omega), if_pos (by omega), rdR, hx, e1, e2, inSet_val h1 hs, hc, Option.bind_some, if_pos rfl, or_nat (by omega) (by omega), wrap_succ hi hl]
    | false =>
      refine Ev.step (f := fun k => impl_OneStep.l0 k (s : Int) (out : Int) l (l.length : Int) ((i + 1 : Nat) : Int)) (fun k => ?_) (ih (i + 1) out hr ho)
      simp only [impl_OneStep.l0]
      rw [if_pos (by omega), if_pos (by omega), if_pos (by omega), rdR, hx, e1, inSet_val h1 hs, hc, Option.bind_some, if_neg (by decide), wrap_succ hi hl]
def stepV (l : List IR) (s : Int) : Int := if l.all anyR && isAny s then ((step (toR l) s.toNat : Nat) : Int) else s
theorem oneI_val (l : List IR) (hl : l.length ≤ 9223372036854775807) (s : Int) : Ev (fun k => impl_OneStep.f k l s) (stepV l s) := by
  unfold impl_OneStep.f impl_areAnyRules.f stepV
  rw [any_val]
  simp only [Option.bind_some]
  cases hs : isAny s with
  | false =>
    rw [Bool.and_false]
    refine Ev.congr (fun k => ?_) (Ev.step (f := fun _ => some s) (g := fun k => impl_OneStep.j0 k l s true) (fun k => ?_) (Ev.now s))
    · rw [if_neg (by decide)]
    · simp only [impl_OneStep.j0, if_true]
  | true =>
    obtain ⟨n, hn, rfl⟩ := isAny_nat hs
    cases ha : l.all anyR with
    | false =>
      refine Ev.congr (fun k => ?_) (Ev.step (f := fun _ => some (n : Int)) (g := fun k => impl_OneStep.j0 k l (n : Int) true) (fun k => ?_) (Ev.now _))
      · rw [if_pos rfl]; rfl
      · simp only [impl_OneStep.j0, if_true]
    | true =>
      rw [Bool.and_true, if_pos rfl, Int.toNat_natCast]
      refine Ev.congr (fun k => ?_) (Ev.step (g := fun k => impl_OneStep.j0 k l (n : Int) false) (fun k => ?_) (stepI_loop l hl ha n hn l 0 n rfl hn))
      · rw [if_pos rfl]; rfl
      · simp only [impl_OneStep.j0]; rw [if_neg (by decide)]; rfl
theorem clS_inner (l : List IR) (hl : l.length ≤ 9223372036854775807) (ha : l.all anyR = true) (res : Int) : ∀ (rest : List IR) (i s : Nat) (ch : Bool), l.drop i = rest → s < 256 →
    Ev (fun k => spec_l9Closed.l0 k l (((sweep (toR rest) (s, ch)).1 : Nat) : Int) (sweep (toR rest) (s, ch)).2) res → Ev (fun k => spec_l9Closed.l1 k l (s : Int) ch (i : Int)) res := by
  intro rest
  induction rest with
  | nil =>
    intro i s ch h hs he
    have := drop_nil h
    refine Ev.step (fun k => ?_) he
    simp only [spec_l9Closed.l1]
    rw [if_neg (by omega)]
    rfl
  | cons x rest ih =>
    intro i s ch h hs he
    obtain ⟨hi, hx, hr⟩ := drop_cons (d := z48) h
    obtain ⟨e1, e2, h1, h2⟩ := anyR_nat (anyR_rest h ha)
    rw [show sweep (toR (x :: rest)) (s, ch) = sweep (toR rest) (if sub (toP x).1 s && !sub (toP x).2 s then (s ||| (toP x).2, true) else (s, ch)) from rfl] at he
    cases hc : sub (toP x).1 s with
    | false =>
      rw [hc, Bool.false_and, if_neg (by decide)] at he
      refine Ev.step (fun k => ?_) (ih (i + 1) s ch hr hs he)
      simp only [spec_l9Closed.l1]
      rw [if_pos (by omega), if_pos (by omega), rdR, hx, e1, if_neg (by rw [and_eq_sub h1 hs, hc]; decide), wrap_succ hi hl]
    | true =>
      cases hd : sub (toP x).2 s with
      | true =>
        rw [hc, hd, if_neg (by decide)] at he
        refine Ev.step (fun k => ?_) (ih (i + 1) s ch hr hs he)
        simp only [spec_l9Closed.l1]
        rw [if_pos (by omega), if_pos (by omega), rdR, hx, e1, e2, if_pos ((and_eq_sub h1 hs).2 hc), if_pos ((and_eq_sub h2 hs).2 hd), wrap_succ hi hl]
      | false =>
        rw [hc, hd, if_pos (by decide)] at he
        refine Ev.step (fun k => ?_) (ih (i + 1) (s ||| (toP x).2) true hr (or256 hs h2) he)
        simp only [spec_l9Closed.l1]
        rw [if_pos (by omega), if_pos (by omega), rdR, hx, e1, e2, if_pos ((and_eq_sub h1 hs).2 hc), if_neg (by rw [and_eq_sub h2 hs, hd]; decide), or_nat (by omega) (by omega), wrap_succ hi hl]
theorem clS_loop (l : List IR) (hl : l.length ≤ 9223372036854775807) (ha : l.all anyR = true) : ∀ (d s : Nat), s < 256 → 256 - s ≤ d → Ev (fun k => spec_l9Closed.l0 k l (s : Int) true) ((clo (toR l) s : Nat) : Int) := by
  have hR := toR_small ha
  intro d
  induction d with
  | zero => intro s hs hd; omega
  | succ d ih =>
    intro s hs hd
    refine Ev.step (g := fun k => spec_l9Closed.l0 k l (s : Int) true) (f := fun k => spec_l9Closed.l1 k l (s : Int) false ((0 : Nat) : Int)) (fun k => by simp only [spec_l9Closed.l0, if_true]; rfl) ?_
    refine clS_inner l hl ha _ l 0 s false rfl hs ?_
    obtain ⟨a, b, c, e, f⟩ := sweep_spec (toR l) (s, false)
    have hlt := b (fun r hr => (hR r hr).2) hs
    generalize hq : sweep (toR l) (s, false) = q at *
    obtain ⟨s', ch'⟩ := q
    cases ch' with
    | false =>
      obtain ⟨_, h2, h3⟩ := e rfl
      have h2' : s' = s := h2
      subst h2'
      rw [(clo_fix hR hs).2 h3]
      exact Ev.step (f := fun _ => some (s' : Int)) (fun k => by simp only [spec_l9Closed.l0]; rw [if_neg (by decide)]) (Ev.now _)
    | true =>
      have hgt : s < s' := f rfl rfl
      have := ih s' hlt (by omega)
      rwa [clo_of_between hR hs hlt a c] at this
theorem clS_val (l : List IR) (hl : l.length ≤ 9223372036854775807) (ha : l.all anyR = true) (s : Nat) (hs : s < 256) : Ev (fun k => spec_l9Closed.f k l (s : Int)) ((clo (toR l) s : Nat) : Int) := clS_loop l hl ha _ s hs (Nat.le_refl _)
def cloV (l : List IR) (s : Int) : Int := if l.all anyR && isAny s then ((clo (toR l) s.toNat : Nat) : Int) else s
theorem closedS_val (l : List IR) (hl : l.length ≤ 9223372036854775807) (s : Int) : Ev (fun k => spec_ClosedBy.f k l s) (cloV l s) := by
  unfold spec_ClosedBy.f cloV
  rw [specSet_val, isSetB_8]
  refine Ev.bind (sets_val l hl) ?_
  cases ha : l.all anyR with
  | false => exact Ev.congr (fun k => by rw [if_neg (by decide)]; rfl) (Ev.now _)
  | true =>
    cases hs : isAny s with
    | false => exact Ev.congr (fun k => by rw [if_pos rfl, Option.bind_some, if_neg (by decide)]; rfl) (Ev.now _)
    | true =>
      obtain ⟨n, hn, rfl⟩ := isAny_nat hs
      rw [Int.toNat_natCast]
      refine Ev.congr (fun k => by rw [if_pos rfl, Option.bind_some, if_pos rfl]) ?_
      exact Ev.bind (clS_val l hl ha n hn) (Ev.now _)
theorem stepV_nat {l : List IR} (ha : l.all anyR = true) {s : Nat} (hs : s < 256) : stepV l (s : Int) = ((step (toR l) s : Nat) : Int) := by
  unfold stepV
  rw [ha, show isAny (s : Int) = true from decide_eq_true (by omega), if_pos (by decide), Int.toNat_natCast]
theorem clI_loop (l : List IR) (hl : l.length ≤ 9223372036854775807) (ha : l.all anyR = true) : ∀ (d s : Nat), s < 256 → 256 - s ≤ d → Ev (fun k => impl_ClosedBy.l0 k l (s : Int) ((step (toR l) s : Nat) : Int)) ((clo (toR l) s : Nat) : Int) := by
  have hR := toR_small ha
  intro d
  induction d with
  | zero => intro s hs hd; omega
  | succ d ih =>
    intro s hs hd
    have hlt := step_lt hR hs
    by_cases e : step (toR l) s = s
    · refine Ev.step (f := fun _ => some (s : Int)) (fun k => ?_) ?_
      · simp only [impl_ClosedBy.l0]; rw [if_pos (by rw [e])]
      · rw [(clo_fix hR hs).2 (step_fix.1 e)]; exact Ev.now _
    · have hgt : s < step (toR l) s := by have := sub_le (sub_step (toR l) s); omega
      refine Ev.step (f := fun k => (impl_OneStep.f k l ((step (toR l) s : Nat) : Int)).bind fun t => impl_ClosedBy.l0 k l ((step (toR l) s : Nat) : Int) t) (fun k => ?_) ?_
      · simp only [impl_ClosedBy.l0]; rw [if_neg (by omega)]
      · refine Ev.bind (oneI_val l hl _) ?_
        rw [stepV_nat ha hlt, ← clo_step hR hs]
        exact ih _ hlt (by omega)
theorem closedI_val (l : List IR) (hl : l.length ≤ 9223372036854775807) (s : Int) : Ev (fun k => impl_ClosedBy.f k l s) (cloV l s) := by
  unfold impl_ClosedBy.f impl_areAnyRules.f cloV
  rw [any_val]
  simp only [Option.bind_some]
  cases hs : isAny s with
  | false =>
    rw [Bool.and_false]
    refine Ev.congr (fun k => ?_) (Ev.step (f := fun _ => some s) (g := fun k => impl_ClosedBy.j0 k l s true) (fun k => ?_) (Ev.now s))
    · rw [if_neg (by decide)]
    · simp only [impl_ClosedBy.j0, if_true]
  | true =>
    obtain ⟨n, hn, rfl⟩ := isAny_nat hs
    cases ha : l.all anyR with
    | false =>
      refine Ev.congr (fun k => ?_) (Ev.step (f := fun _ => some (n : Int)) (g := fun k => impl_ClosedBy.j0 k l (n : Int) true) (fun k => ?_) (Ev.now _))
      · rw [if_pos rfl]; rfl
      · simp only [impl_ClosedBy.j0, if_true]
    | true =>
      rw [Bool.and_true, if_pos rfl, Int.toNat_natCast]
      refine Ev.congr (fun k => ?_) (Ev.step (g := fun k => impl_ClosedBy.j0 k l (n : Int) false) (f := fun k => (impl_OneStep.f k l (n : Int)).bind fun t => impl_ClosedBy.l0 k l (n : Int) t) (fun k => ?_) ?_)
      · rw [if_pos rfl]; rfl
      · simp only [impl_ClosedBy.j0]; rw [if_neg (by decide)]
      · refine Ev.bind (oneI_val l hl _) ?_
        rw [stepV_nat ha hn]
        exact clI_loop l hl ha _ n hn (Nat.le_refl _)
def folV (l : List IR) (r : IR) : Bool := l.all anyR && (anyR r && sub (toP r).2 (clo (toR l) (toP r).1))
theorem cloV_nat {l : List IR} (ha : l.all anyR = true) {s : Nat} (hs : s < 256) : cloV l (s : Int) = ((clo (toR l) s : Nat) : Int) := by
  unfold cloV
  rw [ha, show isAny (s : Int) = true from decide_eq_true (by omega), if_pos (by decide), Int.toNat_natCast]
theorem folS_val (l : List IR) (hl : l.length ≤ 9223372036854775807) (a b : Int) : Ev (fun k => spec_Follows.f k l a b) (folV l ⟨a, b⟩) := by
  unfold spec_Follows.f folV
  rw [rule_val, isSetB_8, isSetB_8, show (isAny a && isAny b) = anyR ⟨a, b⟩ from rfl]
  refine Ev.bind (sets_val l hl) ?_
  cases ha : l.all anyR with
  | false => exact Ev.congr (fun k => by rw [if_neg (by decide)]; rfl) (Ev.now _)
  | true =>
    cases hr : anyR ⟨a, b⟩ with
    | false => exact Ev.congr (fun k => by rw [if_pos rfl, Option.bind_some, if_neg (by decide)]; rfl) (Ev.now _)
    | true =>
      obtain ⟨h1, h2, h3, h4⟩ := anyR_nat hr
      have e1 : a = ((toP ⟨a, b⟩).1 : Int) := h1
      have e2 : b = ((toP ⟨a, b⟩).2 : Int) := h2
      generalize (toP ⟨a, b⟩).1 = x at *
      generalize (toP ⟨a, b⟩).2 = y at *
      subst e1 e2
      refine Ev.congr (fun k => by rw [if_pos rfl, Option.bind_some, if_pos rfl]) ?_
      refine Ev.bind (clS_val l hl ha x h3) ?_
      refine Ev.congr (fun k => congrArg some ?_) (Ev.now _)
      have hlt := (clo_spec (toR_small ha) h3).1
      rw [and_nat (by omega) (by omega), Nat.and_comm, ← and_nat (by omega) (by omega), Bool.eq_iff_iff, beq_iff_eq, and_eq_sub h4 hlt]
      simp
theorem folI_val (l : List IR) (hl : l.length ≤ 9223372036854775807) (a b : Int) : Ev (fun k => impl_Follows.f k l a b) (folV l ⟨a, b⟩) := by
  unfold impl_Follows.f impl_areAnyRules.f folV
  simp only [Option.bind_some]
  rw [show ([(⟨a, b⟩ : IR)].all anyR) = anyR ⟨a, b⟩ from by simp]
  cases ha : l.all anyR with
  | false => exact Ev.congr (fun k => by rw [if_neg (by decide)]; rfl) (Ev.now _)
  | true =>
    cases hr : anyR ⟨a, b⟩ with
    | false => exact Ev.congr (fun k => by rw [if_pos rfl, if_neg (by decide)]; rfl) (Ev.now _)
    | true =>
      obtain ⟨h1, h2, h3, h4⟩ := anyR_nat hr
      have e1 : a = ((toP ⟨a, b⟩).1 : Int) := h1
      have e2 : b = ((toP ⟨a, b⟩).2 : Int) := h2
      generalize (toP ⟨a, b⟩).1 = x at *
      generalize (toP ⟨a, b⟩).2 = y at *
      subst e1 e2
      refine Ev.congr (fun k => by rw [if_pos rfl, if_pos rfl]) ?_
      refine Ev.bind (closedI_val l hl _) ?_
      have hlt := (clo_spec (toR_small ha) h3).1
      rw [cloV_nat ha h3]
      exact Ev.congr (fun k => by rw [inSet_val h4 hlt, Option.bind_some]; rfl) (Ev.now _)
def respV (r : IR) (s : Int) : Bool := anyR r && isAny s && (!sub (toP r).1 s.toNat || sub (toP r).2 s.toNat)
theorem respS_val (a b s : Int) : spec_Respects.f a b s = some (respV ⟨a, b⟩ s) := by
  unfold spec_Respects.f
  rw [rule_val, Option.bind_some, isSetB_8, isSetB_8, specSet_val, Option.bind_some, isSetB_8]
  unfold respV
  rw [show (isAny a && isAny b) = anyR ⟨a, b⟩ from rfl]
  cases h : anyR ⟨a, b⟩ with
  | false => rfl
  | true =>
    obtain ⟨h1, h2, h3, h4⟩ := anyR_nat h
    cases hs : isAny s with
    | false => rfl
    | true =>
      obtain ⟨n, hn, rfl⟩ := isAny_nat hs
      have e1 : a = ((toP ⟨a, b⟩).1 : Int) := h1
      have e2 : b = ((toP ⟨a, b⟩).2 : Int) := h2
      generalize (toP ⟨a, b⟩).1 = x at *
      generalize (toP ⟨a, b⟩).2 = y at *
      subst e1 e2
      rw [if_pos rfl, if_pos rfl, Int.toNat_natCast]
      cases hx : sub x n with
      | false => rw [if_neg (by rw [and_eq_sub h3 hn, hx]; decide)]; rfl
      | true =>
        rw [if_pos ((and_eq_sub h3 hn).2 hx)]
        refine congrArg some ?_
        rw [Bool.eq_iff_iff, beq_iff_eq, and_eq_sub h4 hn]
        simp
theorem respI_val (a b s : Int) : impl_Respects.f a b s = some (respV ⟨a, b⟩ s) := by
  unfold impl_Respects.f impl_areAnyRules.f
  rw [Option.bind_some, any_val, Option.bind_some]
  unfold respV
  rw [show ([(⟨a, b⟩ : IR)].all anyR) = anyR ⟨a, b⟩ from by simp]
  cases h : anyR ⟨a, b⟩ with
  | false => rfl
  | true =>
    obtain ⟨h1, h2, h3, h4⟩ := anyR_nat h
    cases hs : isAny s with
    | false => rfl
    | true =>
      obtain ⟨n, hn, rfl⟩ := isAny_nat hs
      have e1 : a = ((toP ⟨a, b⟩).1 : Int) := h1
      have e2 : b = ((toP ⟨a, b⟩).2 : Int) := h2
      generalize (toP ⟨a, b⟩).1 = x at *
      generalize (toP ⟨a, b⟩).2 = y at *
      subst e1 e2
      rw [if_pos rfl, if_pos rfl, Int.toNat_natCast, inSet_val h3 hn, Option.bind_some, inSet_val h4 hn, Option.bind_some]
      cases sub x n <;> simp
def areV (n : Int) (l : List IR) : Bool := decide (0 ≤ n ∧ n ≤ 6) && decide ((l.length : Int) ≤ 40) && l.all (ruleB n)
theorem are_loop (n : Int) (l : List IR) (hl : l.length ≤ 9223372036854775807) : ∀ (rest : List IR) (i : Nat), l.drop i = rest → Ev (fun k => spec_AreRules.l0 k n l (i : Int)) (decide (0 ≤ n ∧ n ≤ 6) && decide ((l.length : Int) ≤ 40) && rest.all (ruleB n)) := by
  intro rest
  induction rest with
  | nil =>
    intro i h
    have := drop_nil h
    refine Ev.step (f := fun _ => some (decide (0 ≤ n ∧ n ≤ 6) && decide ((l.length : Int) ≤ 40) && true)) (fun k => ?_) (Ev.now _)
    simp only [spec_AreRules.l0]
    rw [if_neg (by omega), l1In_val, Option.bind_some, Bool.and_true]
    cases decide (0 ≤ n ∧ n ≤ 6) <;> rfl
  | cons x rest ih =>
    intro i h
    obtain ⟨hi, hx, hr⟩ := drop_cons (d := z48) h
    rw [List.all_cons]
    cases e : ruleB n x with
    | true =>
      refine Ev.step (f := fun k => spec_AreRules.l0 k n l ((i + 1 : Nat) : Int)) (fun k => ?_) (ih (i + 1) hr)
      simp only [spec_AreRules.l0]
      rw [if_pos (by omega), if_pos (by omega), rdR, hx, rule_val, Option.bind_some, show (isSetB n x.f0 && isSetB n x.f1) = true from e, if_pos rfl, wrap_succ hi hl]
    | false =>
      refine Ev.step (f := fun _ => some false) (fun k => ?_) ?_
      · simp only [spec_AreRules.l0]
        rw [if_pos (by omega), if_pos (by omega), rdR, hx, rule_val, Option.bind_some, show (isSetB n x.f0 && isSetB n x.f1) = false from e, if_neg (by decide)]
      · rw [Bool.false_and, Bool.and_false]
        exact Ev.now false
theorem areS_val (n : Int) (l : List IR) (hl : l.length ≤ 9223372036854775807) : Ev (fun k => spec_AreRules.f k n l) (areV n l) := are_loop n l hl l 0 rfl
theorem areI_val (n : Int) (l : List IR) : impl_AreRules.f n l = some (areV n l) := rfl
theorem areV_nat {n : Int} {l : List IR} (h : areV n l = true) : ∃ m : Nat, n = (m : Int) ∧ m ≤ 6 ∧ l.length ≤ 40 ∧ l.all anyR = true ∧ ∀ r ∈ l, (toP r).1 < 2 ^ m ∧ (toP r).2 < 2 ^ m := by
  unfold areV at h
  rw [Bool.and_eq_true, Bool.and_eq_true, decide_eq_true_iff, decide_eq_true_iff, List.all_eq_true] at h
  obtain ⟨⟨h1, h2⟩, h3⟩ := h
  refine ⟨n.toNat, by omega, by omega, by omega, List.all_eq_true.2 fun r hr => ?_, fun r hr => ?_⟩
  · have := h3 r hr
    unfold ruleB at this
    rw [Bool.and_eq_true] at this
    unfold anyR
    rw [isSetB_any this.1, isSetB_any this.2]; rfl
  · have := h3 r hr
    unfold ruleB at this
    rw [Bool.and_eq_true] at this
    obtain ⟨m, a, hm, e1, ha, e2⟩ := isSetB_nat this.1
    obtain ⟨m', b, hm', e1', hb, e2'⟩ := isSetB_nat this.2
    unfold toP
    rw [e2, e2', e1, Int.toNat_natCast, Int.toNat_natCast, Int.toNat_natCast]
    refine ⟨ha, ?_⟩
    have : m' = m := by omega
    rw [← this]; exact hb
def allN (m : Nat) : List Nat := lecR (List.range (2 ^ m))
theorem range_lt {m : Nat} (hm : m ≤ 8) : ∀ x ∈ List.range (2 ^ m), x < 256 := fun x hx => by
  have := pow_256 hm
  rw [List.mem_range] at hx
  omega
theorem mem_allN {m : Nat} (hm : m ≤ 8) {x : Nat} : x ∈ allN m ↔ x < 2 ^ m := by
  unfold allN
  rw [mem_lecR (range_lt hm), List.mem_range]
theorem allN_length {m : Nat} (hm : m ≤ 8) : (allN m).length = 2 ^ m := by
  unfold allN
  rw [lecR_length (range_lt hm) List.nodup_range, List.length_range]
theorem all_val {m : Nat} (hm : m ≤ 8) : Ev (fun k => impl_allSets.f k (m : Int)) (cast (allN m)) := by
  have hp := pow_256 hm
  have h1 := Nat.two_pow_pos m
  have hs : impl_SortLectic.f (cast (List.range (2 ^ m))) = some (cast (allN m)) := by
    unfold impl_SortLectic.f
    rw [if_pos ⟨cast_any (range_lt hm), cast_nodup List.nodup_range, by rw [cast_length, List.length_range]; exact h1⟩]
    have e : (cast (List.range (2 ^ m))).map Int.toNat = List.range (2 ^ m) := by
      unfold cast
      rw [List.map_map]
      exact List.map_id _
    rw [e]
    rfl
  unfold impl_allSets.f
  rw [shl_one m hm]
  refine Ev.congr (fun k => by rw [if_pos (by omega)]) ?_
  refine ev_fold (g := fun k (a : List Nat) i => impl_allSets.l0 k (cast a) ((2 ^ m : Nat) : Int) i) (rangeStep fun _ => true) (fun i a => a.length ≤ i) (N := 2 ^ m) ?_ (fun i a _ h => rangeStep_len _ i a h) (2 ^ m) 0 [] (by omega) (Nat.le_refl _) ?_
  · intro i a hi ha h
    refine Ev.step (fun k => ?_) h
    simp only [impl_allSets.l0]
    rw [if_pos (by omega), if_pos (by rw [cast_length]; omega), castOne, show wrap64 ((i : Int) + 1) = ((i + 1 : Nat) : Int) from by unfold wrap64; omega]
    rfl
  · intro b hb _
    rw [range_all, List.filter_eq_self.2 (fun _ _ => rfl)] at hb
    subst hb
    refine Ev.step (f := fun _ => some (cast (allN m))) (fun k => ?_) (Ev.now _)
    simp only [impl_allSets.l0]
    rw [if_neg (by omega), hs]
    rfl
def keptN (m : Nat) (q : Nat → Bool) : List Nat := lecR ((List.range (2 ^ m)).filter q)
theorem filt_lt {m : Nat} (hm : m ≤ 8) (q : Nat → Bool) : ∀ x ∈ (List.range (2 ^ m)).filter q, x < 256 := fun x hx => range_lt hm x ((List.mem_filter.1 hx).1)
theorem mem_keptN {m : Nat} (hm : m ≤ 8) {q : Nat → Bool} {x : Nat} : x ∈ keptN m q ↔ x < 2 ^ m ∧ q x = true := by
  unfold keptN
  rw [mem_lecR (filt_lt hm q), List.mem_filter, List.mem_range]
theorem keptN_le {m : Nat} {q : Nat → Bool} : (keptN m q).length ≤ 256 := lecR_len
theorem follows_ex (b : List Int) (hb : b.length ≤ 1048576) : ∃ v : List IR × Int × Int, Ev (fun k => spec_DrawFollows.f k b) v ∧ v.1.length ≤ 5 := by
  obtain ⟨h1, e1⟩ := new_ex b hb
  obtain ⟨⟨l, i2, h2⟩, e2, hl, k2⟩ := bent9_ex b hb 0 h1 (by decide) 5
  dsimp only at hl k2
  obtain ⟨x, y, i3, h3, e3, k3⟩ := make9_ex b hb i2 h2 k2 5
  obtain ⟨o, i4, h4, e4, k4⟩ := once_ex b hb i3 h3 k3 3
  have go : ∀ w, Ev (fun k => if o = true then ((spec_ClosedBy.f k l x).bind fun t => (some (l, x, t))) else (some (l, x, y))) w → Ev (fun k => spec_DrawFollows.f k b) w := by
    intro w hw
    unfold spec_DrawFollows.f
    refine Ev.bind e1 (Ev.bind e2 ?_)
    dsimp only
    rw [e3]
    simp only [Option.bind_some]
    rw [e4]
    exact hw
  cases o with
  | true => exact ⟨(l, x, cloV l x), go _ (Ev.congr (fun k => by rw [if_pos rfl]) (Ev.bind (closedS_val l (by omega) x) (Ev.now _))), hl⟩
  | false => exact ⟨(l, x, y), go _ (Ev.congr (fun k => by rw [if_neg (by decide)]) (Ev.now _)), hl⟩
def redV (l : List IR) (i : Int) : Bool := if 0 ≤ i ∧ i < (l.length : Int) then folV (l.eraseIdx i.toNat) (l.getD i.toNat z48) else false
theorem wrap_pred {n : Nat} (h : n ≤ 1048576) : wrap64 ((n : Int) - 1) = (n : Int) - 1 := by unfold wrap64; omega
theorem ite_some {α : Type} {c : Prop} [Decidable c] {x y : Option α} {r : α} (h : c) (hx : x = some r) : (if c then x else y) = some r := by rw [if_pos h]; exact hx
theorem bind_now {α β : Type} {a : α} {f : α → Option β} {r : β} (h : f a = some r) : (some a).bind f = some r := h
theorem without_val (l : List IR) (hl : l.length ≤ 1048576) (k : Nat) (hk : k < l.length) : spec_l11Without.f l (k : Int) = some (l.eraseIdx k) := by
  have hw : wrap64 ((k : Int) + 1) = ((k + 1 : Nat) : Int) := by unfold wrap64; omega
  have h1 : (l.take (k : Int).toNat).length ≤ 1048576 := by rw [List.length_take]; omega
  have h2 : (l.drop ((k + 1 : Nat) : Int).toNat).length ≤ 1048576 := by rw [List.length_drop]; omega
  have h3 : ∀ n m : Nat, n ≤ 1048576 → m ≤ 1048576 → n + m < 8796093022208 := fun n m _ _ => by omega
  unfold spec_l11Without.f
  rw [hw]
  refine bind_now (ite_some (by omega) (ite_some (by omega) (bind_now (ite_some (h3 _ _ (Nat.zero_le _) h1) (bind_now (ite_some (by omega) (ite_some (by omega) (bind_now (ite_some (h3 _ _ (by rw [List.nil_append]; exact h1) h2) ?_)))))))))
  rw [Int.toNat_natCast, Int.toNat_natCast, List.nil_append, List.eraseIdx_eq_take_drop_succ]
theorem others_val (l : List IR) (hl : l.length ≤ 1048576) (k : Nat) (hk : k < l.length) : impl_others.f l (k : Int) = some (l.eraseIdx k) := by
  unfold impl_others.f
  rw [if_pos ⟨by omega, by omega, by omega⟩, Int.toNat_natCast]
theorem redS_val (l : List IR) (hl : l.length ≤ 1048576) (i : Int) : Ev (fun k => spec_IsRedundant.f k l i) (redV l i) := by
  unfold spec_IsRedundant.f redV
  rw [l1In_val, wrap_pred hl]
  simp only [Option.bind_some]
  by_cases h : 0 ≤ i ∧ i < (l.length : Int)
  · rw [if_pos h]
    obtain ⟨k, rfl⟩ : ∃ k : Nat, i = (k : Int) := ⟨i.toNat, by omega⟩
    have hk : k < l.length := by omega
    refine Ev.congr (fun n => by rw [if_pos (decide_eq_true (by constructor <;> omega)), without_val l hl k hk, Option.bind_some, if_pos h.1, if_pos h.2, rdR]) ?_
    rw [Int.toNat_natCast]
    have hle : (l.eraseIdx k).length ≤ 9223372036854775807 := by rw [List.length_eraseIdx]; split <;> omega
    exact Ev.bind (folS_val _ hle _ _) (Ev.now _)
  · rw [if_neg h]
    exact Ev.congr (fun n => by rw [if_neg (by rw [decide_eq_true_eq]; omega)]) (Ev.now _)
theorem redI_val (l : List IR) (hl : l.length ≤ 1048576) (i : Int) : Ev (fun k => impl_IsRedundant.f k l i) (redV l i) := by
  unfold impl_IsRedundant.f redV
  rw [within_val, wrap_pred hl]
  simp only [Option.bind_some]
  by_cases h : 0 ≤ i ∧ i < (l.length : Int)
  · rw [if_pos h]
    obtain ⟨k, rfl⟩ : ∃ k : Nat, i = (k : Int) := ⟨i.toNat, by omega⟩
    have hk : k < l.length := by omega
    refine Ev.congr (fun n => by rw [if_pos (decide_eq_true (by constructor <;> omega)), others_val l hl k hk, Option.bind_some, if_pos h.1, if_pos h.2, rdR]) ?_
    rw [Int.toNat_natCast]
    have hle : (l.eraseIdx k).length ≤ 9223372036854775807 := by rw [List.length_eraseIdx]; split <;> omega
    exact Ev.bind (folI_val _ hle _ _) (Ev.now _)
  · rw [if_neg h]
    exact Ev.congr (fun n => by rw [if_neg (by rw [decide_eq_true_eq]; omega)]) (Ev.now _)
def mini : Nat → List IR → Nat → List IR
  | 0, l, _ => l
  | d + 1, l, i => if redV l (i : Int) = true then mini d (l.eraseIdx i) i else mini d l (i + 1)
theorem mini_length : ∀ (d : Nat) (l : List IR) (i : Nat), (mini d l i).length ≤ l.length
  | 0, _, _ => Nat.le_refl _
  | d + 1, l, i => by
    rw [mini]
    split
    · exact Nat.le_trans (mini_length d _ i) (by rw [List.length_eraseIdx]; split <;> omega)
    · exact mini_length d l (i + 1)
theorem miniS_loop : ∀ (d : Nat) (l : List IR) (i : Nat), l.length ≤ 1048576 → i + d = l.length → Ev (fun k => spec_MinimalRules.l0 k l (i : Int)) (mini d l i) := by
  intro d
  induction d with
  | zero =>
    intro l i hl h
    refine Ev.step (f := fun _ => some l) (fun k => ?_) (Ev.now _)
    simp only [spec_MinimalRules.l0]
    rw [if_neg (by omega)]
  | succ d ih =>
    intro l i hl h
    have hi : i < l.length := by omega
    refine Ev.step (f := fun k => (spec_IsRedundant.f k l (i : Int)).bind fun t => if t = true then spec_MinimalRules.l0 k (l.eraseIdx i) (i : Int) else spec_MinimalRules.l0 k l ((i + 1 : Nat) : Int)) (fun k => ?_) ?_
    · simp only [spec_MinimalRules.l0]
      rw [if_pos (by omega), without_val l hl i hi, wrap_succ hi (by omega)]
      rfl
    · refine Ev.bind (redS_val l hl _) ?_
      rw [mini]
      cases hr : redV l (i : Int) with
      | true =>
        have he : (l.eraseIdx i).length = l.length - 1 := by rw [List.length_eraseIdx, if_pos hi]
        exact Ev.congr (fun k => by rw [if_pos rfl]) (by rw [if_pos rfl]; exact ih _ i (by omega) (by omega))
      | false => exact Ev.congr (fun k => by rw [if_neg (by decide)]) (by rw [if_neg (by decide)]; exact ih l (i + 1) hl (by omega))
theorem miniI_loop : ∀ (d : Nat) (l : List IR) (i : Nat), l.length ≤ 1048576 → i + d = l.length → Ev (fun k => impl_MinimalRules.l0 k l (i : Int)) (mini d l i) := by
  intro d
  induction d with
  | zero =>
    intro l i hl h
    refine Ev.step (f := fun _ => some l) (fun k => ?_) (Ev.now _)
    simp only [impl_MinimalRules.l0]
    rw [if_neg (by omega)]
  | succ d ih =>
    intro l i hl h
    have hi : i < l.length := by omega
    refine Ev.step (f := fun k => (impl_IsRedundant.f k l (i : Int)).bind fun t => if t = true then impl_MinimalRules.l0 k (l.eraseIdx i) (i : Int) else impl_MinimalRules.l0 k l ((i + 1 : Nat) : Int)) (fun k => ?_) ?_
    · simp only [impl_MinimalRules.l0]
      rw [if_pos (by omega), others_val l hl i hi, wrap_succ hi (by omega)]
      rfl
    · refine Ev.bind (redI_val l hl _) ?_
      rw [mini]
      cases hr : redV l (i : Int) with
      | true =>
        have he : (l.eraseIdx i).length = l.length - 1 := by rw [List.length_eraseIdx, if_pos hi]
        exact Ev.congr (fun k => by rw [if_pos rfl]) (by rw [if_pos rfl]; exact ih _ i (by omega) (by omega))
      | false => exact Ev.congr (fun k => by rw [if_neg (by decide)]) (by rw [if_neg (by decide)]; exact ih l (i + 1) hl (by omega))
def miniV (l : List IR) : List IR := if l.all anyR = true then mini l.length l 0 else []
theorem miniV_length (l : List IR) : (miniV l).length ≤ l.length := by
  unfold miniV
  split
  · exact mini_length _ _ _
  · exact Nat.zero_le _
theorem miniS_val (l : List IR) (hl : l.length ≤ 1048576) : Ev (fun k => spec_MinimalRules.f k l) (miniV l) := by
  unfold spec_MinimalRules.f miniV
  simp only [Option.bind_some, List.nil_append, List.length_nil]
  refine Ev.bind (sets_val l (by omega)) ?_
  cases h : l.all anyR with
  | false => exact Ev.congr (fun k => by rw [if_neg (by decide), if_neg (by decide)]) (Ev.now _)
  | true => exact Ev.congr (fun k => by rw [if_pos rfl, if_pos (by omega)]) (by rw [if_pos rfl]; exact miniS_loop l.length l 0 hl (by omega))
theorem miniI_val (l : List IR) (hl : l.length ≤ 1048576) : Ev (fun k => impl_MinimalRules.f k l) (miniV l) := by
  unfold impl_MinimalRules.f miniV
  rw [show impl_areAnyRules.f l = some (l.all anyR) from rfl]
  simp only [Option.bind_some]
  cases h : l.all anyR with
  | false => exact Ev.congr (fun k => by rw [if_neg (by decide), if_neg (by decide)]) (Ev.now _)
  | true => exact Ev.congr (fun k => by rw [if_pos rfl, show slices_Clone_impl_Rule.f l = some l from by unfold slices_Clone_impl_Rule.f; rw [if_pos (by omega)], Option.bind_some]) (by rw [if_pos rfl]; exact miniI_loop l.length l 0 hl (by omega))
end Go.Proofs.YtafnamchckehmaaGreatDoor.Pu
