/- What the law needs of the program's functions as plain functions, of the proofs that their calls answer so, and of plain laws: gathered by a program of this place (pack.py) out of its printed texts. No condition beyond what each statement says. -/
import Derived.Test.YtbflblmkdnhboaaDoorZXContextOfRules14
import Derived.Test.YtbflblmkdnhboaaDoorZXContextOfRules12
import Derived.Test.YtbflblmkdnhboaaDoorZXContextOfRules13
import Derived.Test.YtbflblmkdnhboaaDoorZXContextOfRules6
import Derived.Test.YtbflblmkdnhboaaDoorZXContextOfRules11
import Derived.Test.YtbflblmkdnhboaaDoorZXContextOfRules9
import Derived.Test.YtbflblmkdnhboaaDoorZXContextOfRules8
import Derived.Test.YtbflblmkdnhboaaDoorZXContextOfRules15
namespace Go.Proofs.YtbflblmkdnhboaaDoor.Pu
open Go.RowKit Go.Proofs.YtbflblmkdnhboaaDoorW.PrintWords Go.Proofs.YtbflblmkdnhboaaDoorW.PrintLast Go.Proofs.YtbflblmkdnhboaaDoorW.PrintMore Go.Proofs.YtbflblmkdnhboaaDoor.Pr
def allN (m : Nat) : List Nat := lecR (List.range (2 ^ m))
theorem range_lt {m : Nat} (hm : m ≤ 8) : ∀ x ∈ List.range (2 ^ m), x < 256 := fun x hx => by
  have := pow_256 hm
  rw [List.mem_range] at hx
  omega
theorem mem_allN {m : Nat} (hm : m ≤ 8) {x : Nat} : x ∈ allN m ↔ x < 2 ^ m := by
  unfold allN
  rw [mem_lecR (range_lt hm), List.mem_range]
theorem allN_length {m : Nat} (hm : m ≤ 8) : (allN m).length = 2 ^ m := by
  unfold allN
  rw [lecR_length (range_lt hm) List.nodup_range, List.length_range]
theorem allN_row {m : Nat} (hm : m ≤ 8) {i : Nat} (hi : i < (allN m).length) : row (allN m) i < 2 ^ m := by
  unfold row
  rw [List.getD_eq_getElem?_getD, List.getElem?_eq_getElem hi]
  exact (mem_allN hm).1 (List.getElem_mem _)
theorem all_val {m : Nat} (hm : m ≤ 8) : Ev (fun k => impl_allSets.f k (m : Int)) (cast (allN m)) := by
  have hp := pow_256 hm
  have h1 := Nat.two_pow_pos m
  have hs : impl_SortLectic.f (cast (List.range (2 ^ m))) = some (cast (allN m)) := by
    unfold impl_SortLectic.f
    rw [if_pos ⟨cast_any (range_lt hm), cast_nodup List.nodup_range, by rw [cast_length, List.length_range]; exact h1⟩]
    have e : (cast (List.range (2 ^ m))).map Int.toNat = List.range (2 ^ m) := by
      unfold cast
      rw [List.map_map]
      exact List.map_id _
    rw [e]
    rfl
  unfold impl_allSets.f
  rw [shl_one m hm]
  refine Ev.congr (fun k => by rw [if_pos (by omega)]) ?_
  refine ev_fold (g := fun k (a : List Nat) i => impl_allSets.l0 k (cast a) ((2 ^ m : Nat) : Int) i) (rangeStep fun _ => true) (fun i a => a.length ≤ i) (N := 2 ^ m) ?_ (fun i a _ h => rangeStep_len _ i a h) (2 ^ m) 0 [] (by omega) (Nat.le_refl _) ?_
  · intro i a hi ha h
    refine Ev.step (fun k => ?_) h
    simp only [impl_allSets.l0]
    rw [if_pos (by omega), if_pos (by rw [cast_length]; omega), castOne, show wrap64 ((i : Int) + 1) = ((i + 1 : Nat) : Int) from by unfold wrap64; omega]
    rfl
  · intro b hb _
    rw [range_all, List.filter_eq_self.2 (fun _ _ => rfl)] at hb
    subst hb
    refine Ev.step (f := fun _ => some (cast (allN m))) (fun k => ?_) (Ev.now _)
    simp only [impl_allSets.l0]
    rw [if_neg (by omega), hs]
    rfl
/-- of all sets, those that pass -/
def keptN (m : Nat) (q : Nat → Bool) : List Nat := lecR ((List.range (2 ^ m)).filter q)
theorem keptN_eq (m : Nat) (q : Nat → Bool) : (allN m).filter q = keptN m q := lecR_filter q
theorem filt_lt {m : Nat} (hm : m ≤ 8) (q : Nat → Bool) : ∀ x ∈ (List.range (2 ^ m)).filter q, x < 256 := fun x hx => range_lt hm x ((List.mem_filter.1 hx).1)
theorem mem_keptN {m : Nat} (hm : m ≤ 8) {q : Nat → Bool} {x : Nat} : x ∈ keptN m q ↔ x < 2 ^ m ∧ q x = true := by
  unfold keptN
  rw [mem_lecR (filt_lt hm q), List.mem_filter, List.mem_range]
theorem keptN_le {m : Nat} {q : Nat → Bool} : (keptN m q).length ≤ 256 := lecR_len
end Go.Proofs.YtbflblmkdnhboaaDoor.Pu
namespace Go.Proofs.YtbflblmkdnhboaaDoor.Pu
open Go.RowKit Go.Proofs.YtbflblmkdnhboaaDoorW.PrintWords Go.Proofs.YtbflblmkdnhboaaDoorW.PrintLast Go.Proofs.YtbflblmkdnhboaaDoorW.PrintMore Go.Proofs.YtbflblmkdnhboaaDoor.Pr
def areV (n : Int) (l : List IR) : Bool := decide (0 ≤ n ∧ n ≤ 6) && decide ((l.length : Int) ≤ 40) && l.all (ruleB n)
theorem are_loop (n : Int) (l : List IR) (hl : l.length ≤ 9223372036854775807) : ∀ (rest : List IR) (i : Nat), l.drop i = rest → Ev (fun k => spec_AreRules.l0 k n l (i : Int)) (decide (0 ≤ n ∧ n ≤ 6) && decide ((l.length : Int) ≤ 40) && rest.all (ruleB n)) := by
  intro rest
  induction rest with
  | nil =>
    intro i h
    have := drop_nil h
    refine Ev.step (f := fun _ => some (decide (0 ≤ n ∧ n ≤ 6) && decide ((l.length : Int) ≤ 40) && true)) (fun k => ?_) (Ev.now _)
    simp only [spec_AreRules.l0]
    rw [if_neg (by omega), l1In_val, Option.bind_some, Bool.and_true]
    cases decide (0 ≤ n ∧ n ≤ 6) <;> rfl
  | cons x rest ih =>
    intro i h
    obtain ⟨hi, hx, hr⟩ := drop_cons (d := z58) h
    rw [List.all_cons]
    cases e : ruleB n x with
    | true =>
      refine Ev.step (f := fun k => spec_AreRules.l0 k n l ((i + 1 : Nat) : Int)) (fun k => ?_) (ih (i + 1) hr)
      simp only [spec_AreRules.l0]
      rw [if_pos (by omega), if_pos (by omega), rdR, hx, rule_val, Option.bind_some, show (isSetB n x.f0 && isSetB n x.f1) = true from e, if_pos rfl, wrap_succ hi hl]
    | false =>
      refine Ev.step (f := fun _ => some false) (fun k => ?_) ?_
      · simp only [spec_AreRules.l0]
        rw [if_pos (by omega), if_pos (by omega), rdR, hx, rule_val, Option.bind_some, show (isSetB n x.f0 && isSetB n x.f1) = false from e, if_neg (by decide)]
      · rw [Bool.false_and, Bool.and_false]
        exact Ev.now false
theorem areS_val (n : Int) (l : List IR) (hl : l.length ≤ 9223372036854775807) : Ev (fun k => spec_AreRules.f k n l) (areV n l) := are_loop n l hl l 0 rfl
theorem areI_val (n : Int) (l : List IR) : impl_AreRules.f n l = some (areV n l) := rfl
theorem areV_nat {n : Int} {l : List IR} (h : areV n l = true) : ∃ m : Nat, n = (m : Int) ∧ m ≤ 6 ∧ l.length ≤ 40 ∧ l.all anyR = true ∧ ∀ r ∈ l, (toP r).1 < 2 ^ m ∧ (toP r).2 < 2 ^ m := by
  unfold areV at h
  rw [Bool.and_eq_true, Bool.and_eq_true, decide_eq_true_iff, decide_eq_true_iff, List.all_eq_true] at h
  obtain ⟨⟨h1, h2⟩, h3⟩ := h
  refine ⟨n.toNat, by omega, by omega, by omega, List.all_eq_true.2 fun r hr => ?_, fun r hr => ?_⟩
  · have := h3 r hr
    unfold ruleB at this
    rw [Bool.and_eq_true] at this
    unfold anyR
    rw [isSetB_any this.1, isSetB_any this.2]; rfl
  · have := h3 r hr
    unfold ruleB at this
    rw [Bool.and_eq_true] at this
    obtain ⟨m, a, hm, e1, ha, e2⟩ := isSetB_nat this.1
    obtain ⟨m', b, hm', e1', hb, e2'⟩ := isSetB_nat this.2
    unfold toP
    rw [e2, e2', e1, Int.toNat_natCast, Int.toNat_natCast, Int.toNat_natCast]
    refine ⟨ha, ?_⟩
    have : m' = m := by omega
    rw [← this]; exact hb
end Go.Proofs.YtbflblmkdnhboaaDoor.Pu
namespace Go.Proofs.YtbflblmkdnhboaaDoor.Pu
open Go.RowKit Go.Proofs.YtbflblmkdnhboaaDoorW.PrintWords Go.Proofs.YtbflblmkdnhboaaDoorW.PrintLast Go.Proofs.YtbflblmkdnhboaaDoorW.PrintMore Go.Proofs.YtbflblmkdnhboaaDoor.Pr
theorem anyR_rest {l rest : List IR} {i : Nat} {x : IR} (h : l.drop i = x :: rest) (ha : l.all anyR = true) : anyR x = true :=
  List.all_eq_true.1 ha x (List.mem_of_mem_drop (i := i) (by rw [h]; exact List.mem_cons_self))
theorem stepI_loop (l : List IR) (hl : l.length ≤ 9223372036854775807) (ha : l.all anyR = true) (s : Nat) (hs : s < 256) : ∀ (rest : List IR) (i out : Nat), l.drop i = rest → out < 256 →
    Ev (fun k => impl_OneStep.l0 k (s : Int) (out : Int) l (l.length : Int) (i : Int)) (((toR rest).foldl (fun o r => if sub r.1 s then o ||| r.2 else o) out : Nat) : Int) := by
  intro rest
  induction rest with
  | nil =>
    intro i out h ho
    have := drop_nil h
    refine Ev.step (f := fun _ => some (out : Int)) (fun k => ?_) (Ev.now _)
    simp only [impl_OneStep.l0]
    rw [if_neg (by omega)]
  | cons x rest ih =>
    intro i out h ho
    obtain ⟨hi, hx, hr⟩ := drop_cons (d := z58) h
    obtain ⟨e1, e2, h1, h2⟩ := anyR_nat (anyR_rest h ha)
    rw [show toR (x :: rest) = toP x :: toR rest from rfl, List.foldl_cons]
    cases hc : sub (toP x).1 s with
    | true =>
      refine Ev.step (f := fun k => impl_OneStep.l0 k (s : Int) ((out ||| (toP x).2 : Nat) : Int) l (l.length : Int) ((i + 1 : Nat) : Int)) (fun k => ?_) (ih (i + 1) (out ||| (toP x).2) hr (or256 ho h2))
      simp only [impl_OneStep.l0]
      rw [if_pos (by omega), if_pos (by omega), if_pos (by omega), rdR, hx, e1, e2, inSet_val h1 hs, hc, Option.bind_some, if_pos rfl, or_nat (by omega) (by omega), wrap_succ hi hl]
    | false =>
      refine Ev.step (f := fun k => impl_OneStep.l0 k (s : Int) (out : Int) l (l.length : Int) ((i + 1 : Nat) : Int)) (fun k => ?_) (ih (i + 1) out hr ho)
      simp only [impl_OneStep.l0]
      rw [if_pos (by omega), if_pos (by omega), if_pos (by omega), rdR, hx, e1, inSet_val h1 hs, hc, Option.bind_some, if_neg (by decide), wrap_succ hi hl]
/-- what one step answers, for whatever arguments -/
def stepV (l : List IR) (s : Int) : Int := if l.all anyR && isAny s then ((step (toR l) s.toNat : Nat) : Int) else s
theorem oneI_val (l : List IR) (hl : l.length ≤ 9223372036854775807) (s : Int) : Ev (fun k => impl_OneStep.f k l s) (stepV l s) := by
  unfold impl_OneStep.f impl_areAnyRules.f stepV
  rw [any_val]
  simp only [Option.bind_some]
  cases hs : isAny s with
  | false =>
    rw [Bool.and_false]
    refine Ev.congr (fun k => ?_) (Ev.step (f := fun _ => some s) (g := fun k => impl_OneStep.j0 k l s true) (fun k => ?_) (Ev.now s))
    · rw [if_neg (by decide)]
    · simp only [impl_OneStep.j0, if_true]
  | true =>
    obtain ⟨n, hn, rfl⟩ := isAny_nat hs
    cases ha : l.all anyR with
    | false =>
      refine Ev.congr (fun k => ?_) (Ev.step (f := fun _ => some (n : Int)) (g := fun k => impl_OneStep.j0 k l (n : Int) true) (fun k => ?_) (Ev.now _))
      · rw [if_pos rfl]; rfl
      · simp only [impl_OneStep.j0, if_true]
    | true =>
      rw [Bool.and_true, if_pos rfl, Int.toNat_natCast]
      refine Ev.congr (fun k => ?_) (Ev.step (g := fun k => impl_OneStep.j0 k l (n : Int) false) (fun k => ?_) (stepI_loop l hl ha n hn l 0 n rfl hn))
      · rw [if_pos rfl]; rfl
      · simp only [impl_OneStep.j0]; rw [if_neg (by decide)]; rfl
theorem clS_inner (l : List IR) (hl : l.length ≤ 9223372036854775807) (ha : l.all anyR = true) (res : Int) : ∀ (rest : List IR) (i s : Nat) (ch : Bool), l.drop i = rest → s < 256 →
    Ev (fun k => spec_l9Closed.l0 k l (((sweep (toR rest) (s, ch)).1 : Nat) : Int) (sweep (toR rest) (s, ch)).2) res → Ev (fun k => spec_l9Closed.l1 k l (s : Int) ch (i : Int)) res := by
  intro rest
  induction rest with
  | nil =>
    intro i s ch h hs he
    have := drop_nil h
    refine Ev.step (fun k => ?_) he
    simp only [spec_l9Closed.l1]
    rw [if_neg (by omega)]
    rfl
  | cons x rest ih =>
    intro i s ch h hs he
    obtain ⟨hi, hx, hr⟩ := drop_cons (d := z58) h
    obtain ⟨e1, e2, h1, h2⟩ := anyR_nat (anyR_rest h ha)
    rw [show sweep (toR (x :: rest)) (s, ch) = sweep (toR rest) (if sub (toP x).1 s && !sub (toP x).2 s then (s ||| (toP x).2, true) else (s, ch)) from rfl] at he
    cases hc : sub (toP x).1 s with
    | false =>
      rw [hc, Bool.false_and, if_neg (by decide)] at he
      refine Ev.step (fun k => ?_) (ih (i + 1) s ch hr hs he)
      simp only [spec_l9Closed.l1]
      rw [if_pos (by omega), if_pos (by omega), rdR, hx, e1, if_neg (by rw [and_eq_sub h1 hs, hc]; decide), wrap_succ hi hl]
    | true =>
      cases hd : sub (toP x).2 s with
      | true =>
        rw [hc, hd, if_neg (by decide)] at he
        refine Ev.step (fun k => ?_) (ih (i + 1) s ch hr hs he)
        simp only [spec_l9Closed.l1]
        rw [if_pos (by omega), if_pos (by omega), rdR, hx, e1, e2, if_pos ((and_eq_sub h1 hs).2 hc), if_pos ((and_eq_sub h2 hs).2 hd), wrap_succ hi hl]
      | false =>
        rw [hc, hd, if_pos (by decide)] at he
        refine Ev.step (fun k => ?_) (ih (i + 1) (s ||| (toP x).2) true hr (or256 hs h2) he)
        simp only [spec_l9Closed.l1]
        rw [if_pos (by omega), if_pos (by omega), rdR, hx, e1, e2, if_pos ((and_eq_sub h1 hs).2 hc), if_neg (by rw [and_eq_sub h2 hs, hd]; decide), or_nat (by omega) (by omega), wrap_succ hi hl]
theorem clS_loop (l : List IR) (hl : l.length ≤ 9223372036854775807) (ha : l.all anyR = true) : ∀ (d s : Nat), s < 256 → 256 - s ≤ d → Ev (fun k => spec_l9Closed.l0 k l (s : Int) true) ((clo (toR l) s : Nat) : Int) := by
  have hR := toR_small ha
  intro d
  induction d with
  | zero => intro s hs hd; omega
  | succ d ih =>
    intro s hs hd
    refine Ev.step (g := fun k => spec_l9Closed.l0 k l (s : Int) true) (f := fun k => spec_l9Closed.l1 k l (s : Int) false ((0 : Nat) : Int)) (fun k => by simp only [spec_l9Closed.l0, if_true]; rfl) ?_
    refine clS_inner l hl ha _ l 0 s false rfl hs ?_
    obtain ⟨a, b, c, e, f⟩ := sweep_spec (toR l) (s, false)
    have hlt := b (fun r hr => (hR r hr).2) hs
    generalize hq : sweep (toR l) (s, false) = q at *
    obtain ⟨s', ch'⟩ := q
    cases ch' with
    | false =>
      obtain ⟨_, h2, h3⟩ := e rfl
      have h2' : s' = s := h2
      subst h2'
      rw [(clo_fix hR hs).2 h3]
      exact Ev.step (f := fun _ => some (s' : Int)) (fun k => by simp only [spec_l9Closed.l0]; rw [if_neg (by decide)]) (Ev.now _)
    | true =>
      have hgt : s < s' := f rfl rfl
      have := ih s' hlt (by omega)
      rwa [clo_of_between hR hs hlt a c] at this
theorem clS_val (l : List IR) (hl : l.length ≤ 9223372036854775807) (ha : l.all anyR = true) (s : Nat) (hs : s < 256) : Ev (fun k => spec_l9Closed.f k l (s : Int)) ((clo (toR l) s : Nat) : Int) := clS_loop l hl ha _ s hs (Nat.le_refl _)
def cloV (l : List IR) (s : Int) : Int := if l.all anyR && isAny s then ((clo (toR l) s.toNat : Nat) : Int) else s
theorem stepV_nat {l : List IR} (ha : l.all anyR = true) {s : Nat} (hs : s < 256) : stepV l (s : Int) = ((step (toR l) s : Nat) : Int) := by
  unfold stepV
  rw [ha, show isAny (s : Int) = true from decide_eq_true (by omega), if_pos (by decide), Int.toNat_natCast]
theorem clI_loop (l : List IR) (hl : l.length ≤ 9223372036854775807) (ha : l.all anyR = true) : ∀ (d s : Nat), s < 256 → 256 - s ≤ d → Ev (fun k => impl_ClosedBy.l0 k l (s : Int) ((step (toR l) s : Nat) : Int)) ((clo (toR l) s : Nat) : Int) := by
  have hR := toR_small ha
  intro d
  induction d with
  | zero => intro s hs hd; omega
  | succ d ih =>
    intro s hs hd
    have hlt := step_lt hR hs
    by_cases e : step (toR l) s = s
    · refine Ev.step (f := fun _ => some (s : Int)) (fun k => ?_) ?_
      · simp only [impl_ClosedBy.l0]; rw [if_pos (by rw [e])]
      · rw [(clo_fix hR hs).2 (step_fix.1 e)]; exact Ev.now _
    · have hgt : s < step (toR l) s := by have := sub_le (sub_step (toR l) s); omega
      refine Ev.step (f := fun k => (impl_OneStep.f k l ((step (toR l) s : Nat) : Int)).bind fun t => impl_ClosedBy.l0 k l ((step (toR l) s : Nat) : Int) t) (fun k => ?_) ?_
      · simp only [impl_ClosedBy.l0]; rw [if_neg (by omega)]
      · refine Ev.bind (oneI_val l hl _) ?_
        rw [stepV_nat ha hlt, ← clo_step hR hs]
        exact ih _ hlt (by omega)
theorem closedI_val (l : List IR) (hl : l.length ≤ 9223372036854775807) (s : Int) : Ev (fun k => impl_ClosedBy.f k l s) (cloV l s) := by
  unfold impl_ClosedBy.f impl_areAnyRules.f cloV
  rw [any_val]
  simp only [Option.bind_some]
  cases hs : isAny s with
  | false =>
    rw [Bool.and_false]
    refine Ev.congr (fun k => ?_) (Ev.step (f := fun _ => some s) (g := fun k => impl_ClosedBy.j0 k l s true) (fun k => ?_) (Ev.now s))
    · rw [if_neg (by decide)]
    · simp only [impl_ClosedBy.j0, if_true]
  | true =>
    obtain ⟨n, hn, rfl⟩ := isAny_nat hs
    cases ha : l.all anyR with
    | false =>
      refine Ev.congr (fun k => ?_) (Ev.step (f := fun _ => some (n : Int)) (g := fun k => impl_ClosedBy.j0 k l (n : Int) true) (fun k => ?_) (Ev.now _))
      · rw [if_pos rfl]; rfl
      · simp only [impl_ClosedBy.j0, if_true]
    | true =>
      rw [Bool.and_true, if_pos rfl, Int.toNat_natCast]
      refine Ev.congr (fun k => ?_) (Ev.step (g := fun k => impl_ClosedBy.j0 k l (n : Int) false) (f := fun k => (impl_OneStep.f k l (n : Int)).bind fun t => impl_ClosedBy.l0 k l (n : Int) t) (fun k => ?_) ?_)
      · rw [if_pos rfl]; rfl
      · simp only [impl_ClosedBy.j0]; rw [if_neg (by decide)]
      · refine Ev.bind (oneI_val l hl _) ?_
        rw [stepV_nat ha hn]
        exact clI_loop l hl ha _ n hn (Nat.le_refl _)
theorem cloV_nat {l : List IR} (ha : l.all anyR = true) {s : Nat} (hs : s < 256) : cloV l (s : Int) = ((clo (toR l) s : Nat) : Int) := by
  unfold cloV
  rw [ha, show isAny (s : Int) = true from decide_eq_true (by omega), if_pos (by decide), Int.toNat_natCast]
end Go.Proofs.YtbflblmkdnhboaaDoor.Pu
namespace Go.Proofs.YtbflblmkdnhboaaDoor.Pu
open Go.RowKit Go.Proofs.YtbflblmkdnhboaaDoorW.PrintWords Go.Proofs.YtbflblmkdnhboaaDoorW.PrintLast Go.Proofs.YtbflblmkdnhboaaDoorW.PrintMore Go.Proofs.YtbflblmkdnhboaaDoor.Pr
def modQ (l : List IR) (s : Nat) : Bool := decide (clo (toR l) s = s)
def modN (m : Nat) (l : List IR) : List Nat := keptN m (modQ l)
def modV (n : Int) (l : List IR) : List Int × Bool := if areV n l = true then (cast (modN n.toNat l), true) else ([], false)
theorem modI_val (n : Int) (l : List IR) (hl : l.length ≤ 1048576) : Ev (fun k => impl_ModelsOf.f k n l) (modV n l) := by
  unfold impl_ModelsOf.f modV
  rw [areI_val]
  simp only [Option.bind_some]
  cases ha : areV n l with
  | false => rw [if_neg (show ¬ (false = true) by decide)]; exact Ev.congr (fun k => by rw [if_neg (by decide)]) (Ev.now _)
  | true =>
    obtain ⟨m, rfl, hm, _, hany, _⟩ := areV_nat ha
    rw [Int.toNat_natCast, if_pos rfl]
    refine Ev.congr (fun k => by rw [if_pos rfl]) ?_
    refine Ev.bind (all_val (show m ≤ 8 by omega)) ?_
    have hp := pow_256 (show m ≤ 8 by omega)
    have hN : (allN m).length ≤ 256 := by rw [allN_length (by omega)]; exact hp
    refine ev_fold (g := fun k (a : List Nat) i => impl_ModelsOf.l0 k l (cast a) (cast (allN m)) ((cast (allN m)).length : Int) i) (keepStep (allN m) (modQ l)) (fun i a => a.length ≤ i) (N := (allN m).length) ?_ (fun i a _ h => keep_len _ _ i a h) (allN m).length 0 [] (by omega) (Nat.le_refl _) ?_
    · intro i a hi hai h
      have hr : row (allN m) i < 256 := by have := allN_row (show m ≤ 8 by omega) hi; omega
      have hc := closedI_val l (by omega) ((row (allN m) i : Nat) : Int)
      rw [cloV_nat hany hr] at hc
      refine Ev.step (f := fun k => (impl_ClosedBy.f k l ((row (allN m) i : Nat) : Int)).bind fun t => if t = ((row (allN m) i : Nat) : Int) then impl_ModelsOf.l0 k l (cast (a ++ [row (allN m) i])) (cast (allN m)) ((cast (allN m)).length : Int) ((i + 1 : Nat) : Int) else impl_ModelsOf.l0 k l (cast a) (cast (allN m)) ((cast (allN m)).length : Int) ((i + 1 : Nat) : Int)) (fun k => ?_) ?_
      · simp only [impl_ModelsOf.l0]
        rw [if_pos (by rw [cast_length]; omega), if_pos (by omega), if_pos (by rw [cast_length]; omega), rd_row, wrap_succ hi (by omega), if_pos (by rw [cast_length]; omega), castOne]
      · refine Ev.bind hc ?_
        unfold keepStep modQ at h
        by_cases e : clo (toR l) (row (allN m) i) = row (allN m) i
        · rw [if_pos (decide_eq_true e)] at h
          exact Ev.congr (fun k => by rw [if_pos (by rw [e])]) h
        · rw [if_neg (by rw [decide_eq_true_iff]; exact e)] at h
          exact Ev.congr (fun k => by rw [if_neg (by omega)]) h
    · intro b hb _
      rw [keep_all, keptN_eq] at hb
      subst hb
      refine Ev.step (f := fun _ => some (cast (modN m l), true)) (fun k => ?_) (Ev.now _)
      simp only [impl_ModelsOf.l0]
      rw [if_neg (by rw [cast_length]; omega)]
      rfl
theorem modS13_val {m : Nat} (hm : m ≤ 6) (l : List IR) (hl : l.length ≤ 1048576) (ha : l.all anyR = true) : Ev (fun k => spec_l13Models.f k (m : Int) l) (cast (modN m l)) := by
  have hp := pow_256 (show m ≤ 8 by omega)
  have h1 := Nat.two_pow_pos m
  unfold spec_l13Models.f
  refine ev_fold (g := fun k (a : List Nat) i => spec_l13Models.l0 k (m : Int) l (cast a) i) (rangeStep (modQ l)) (fun i a => a.length ≤ i) (N := 2 ^ m) ?_ (fun i a _ h => rangeStep_len _ i a h) (2 ^ m) 0 [] (by omega) (Nat.le_refl _) ?_
  · intro i a hi hai h
    refine Ev.step (f := fun k => (spec_l9Closed.f k l (i : Int)).bind fun t => if t = (i : Int) then spec_l13Models.l0 k (m : Int) l (cast (a ++ [i])) ((i + 1 : Nat) : Int) else spec_l13Models.l0 k (m : Int) l (cast a) ((i + 1 : Nat) : Int)) (fun k => ?_) ?_
    · simp only [spec_l13Models.l0]
      rw [fullS_val, fullV_nat (by omega), Option.bind_some, if_pos (by omega), if_pos (by rw [cast_length]; omega), castOne, show wrap64 ((i : Int) + 1) = ((i + 1 : Nat) : Int) from by unfold wrap64; omega]
    · refine Ev.bind (clS_val l (by omega) ha i (by omega)) ?_
      unfold rangeStep modQ at h
      by_cases e : clo (toR l) i = i
      · rw [if_pos (decide_eq_true e)] at h
        exact Ev.congr (fun k => by rw [if_pos (by rw [e])]) h
      · rw [if_neg (by rw [decide_eq_true_iff]; exact e)] at h
        exact Ev.congr (fun k => by rw [if_neg (by omega)]) h
  · intro b hb hbl
    rw [range_all] at hb
    subst hb
    refine Ev.step (f := fun k => (spec_SortLectic.f k (cast ((List.range (2 ^ m)).filter (modQ l)))).bind fun t => some t) (fun k => ?_) ?_
    · simp only [spec_l13Models.l0]
      rw [fullS_val, fullV_nat (by omega), Option.bind_some, if_neg (by omega)]
    · exact Ev.bind (sortS_val (filt_lt (by omega) _) (by omega)) (Ev.now _)
theorem modS_val (n : Int) (l : List IR) (hl : l.length ≤ 1048576) : Ev (fun k => spec_ModelsOf.f k n l) (modV n l) := by
  unfold spec_ModelsOf.f modV
  refine Ev.bind (areS_val n l (by omega)) ?_
  cases ha : areV n l with
  | false => rw [if_neg (show ¬ (false = true) by decide)]; exact Ev.congr (fun k => by rw [if_neg (by decide)]) (Ev.now _)
  | true =>
    obtain ⟨m, rfl, hm, _, hany, _⟩ := areV_nat ha
    rw [Int.toNat_natCast, if_pos rfl]
    refine Ev.congr (fun k => by rw [if_pos rfl]) ?_
    exact Ev.bind (modS13_val hm l hl hany) (Ev.now _)
def irmV (n : Int) (l : List IR) : List Int × Bool := if areV n l = true then (cast (irV (modN n.toNat l) n.toNat), true) else ([], false)
theorem irV_len (L : List Nat) (m : Nat) : (irV L m).length ≤ L.length := by
  unfold irV
  exact fold_inv (irStep L m) (fun i a => a.length ≤ i) (fun i a _ h => irStep_len L m i a h) L.length 0 [] (by omega) (Nat.le_refl _)
theorem irmV_len (n : Int) (l : List IR) : (irmV n l).1.length ≤ 256 := by
  unfold irmV
  split
  · rw [cast_length]; exact Nat.le_trans (irV_len _ _) keptN_le
  · exact Nat.zero_le _
theorem irmI_val (n : Int) (l : List IR) (hl : l.length ≤ 1048576) : Ev (fun k => impl_IrreducibleModels.f k n l) (irmV n l) := by
  unfold impl_IrreducibleModels.f irmV
  refine Ev.bind (modI_val n l hl) ?_
  unfold modV
  cases ha : areV n l with
  | false => rw [if_neg (show ¬ (false = true) by decide), if_neg (show ¬ (false = true) by decide)]; exact Ev.congr (fun k => by rw [if_neg (by decide)]) (Ev.now _)
  | true =>
    obtain ⟨m, rfl, hm, _, _, _⟩ := areV_nat ha
    rw [Int.toNat_natCast, if_pos rfl, if_pos rfl]
    refine Ev.congr (fun k => by rw [if_pos rfl]) ?_
    exact Ev.bind (irI_val (modN m l) m hm (Nat.le_trans keptN_le (by decide)) (fun r hr => ((mem_keptN (by omega)).1 hr).1)) (Ev.now _)
theorem irmS_val (n : Int) (l : List IR) (hl : l.length ≤ 1048576) : Ev (fun k => spec_IrreducibleModels.f k n l) (irmV n l) := by
  unfold spec_IrreducibleModels.f irmV
  refine Ev.bind (modS_val n l hl) ?_
  unfold modV
  cases ha : areV n l with
  | false => rw [if_neg (show ¬ (false = true) by decide), if_neg (show ¬ (false = true) by decide)]; exact Ev.congr (fun k => by rw [if_neg (by decide)]) (Ev.now _)
  | true =>
    obtain ⟨m, rfl, hm, _, _, _⟩ := areV_nat ha
    rw [Int.toNat_natCast, if_pos rfl, if_pos rfl]
    refine Ev.congr (fun k => by rw [if_pos rfl]) ?_
    exact Ev.bind (irS_val (modN m l) m hm (Nat.le_trans keptN_le (by decide)) (fun r hr => ((mem_keptN (by omega)).1 hr).1)) (Ev.now _)
def corV (n : Int) (l : List IR) : Int × List Int × Bool := if (irmV n l).2 = true then (if ((irmV n l).1.length : Int) > 8 then (0, [], false) else (n, (irmV n l).1, true)) else (0, [], false)
theorem corV_len (n : Int) (l : List IR) : (corV n l).2.1.length ≤ 256 := by
  have := irmV_len n l
  unfold corV
  split
  · split
    · exact Nat.zero_le _
    · exact this
  · exact Nat.zero_le _
theorem corI_val (n : Int) (l : List IR) (hl : l.length ≤ 1048576) : Ev (fun k => impl_ContextOfRules.f k n l) (corV n l) := by
  unfold impl_ContextOfRules.f corV
  refine Ev.bind (irmI_val n l hl) ?_
  unfold impl_contextOf.f
  by_cases h : (irmV n l).2 = true
  · rw [if_pos h, if_pos h]
    by_cases h2 : ((irmV n l).1.length : Int) > 8
    · rw [if_pos h2, if_pos h2]; exact Ev.now _
    · rw [if_neg h2, if_neg h2]; exact Ev.now _
  · rw [if_neg h, if_neg h]; exact Ev.now _
theorem corS_val (n : Int) (l : List IR) (hl : l.length ≤ 1048576) : Ev (fun k => spec_ContextOfRules.f k n l) (corV n l) := by
  unfold spec_ContextOfRules.f corV
  refine Ev.bind (irmS_val n l hl) ?_
  by_cases h : (irmV n l).2 = true
  · refine Ev.congr (fun k => by rw [if_pos h]) ?_
    rw [if_pos h]
    by_cases h2 : ((irmV n l).1.length : Int) > 8
    · rw [if_pos h2]; exact Ev.congr (fun k => by rw [if_pos h2]) (Ev.now _)
    · rw [if_neg h2]; exact Ev.congr (fun k => by rw [if_neg h2]) (Ev.now _)
  · rw [if_neg h]; exact Ev.congr (fun k => by rw [if_neg h]) (Ev.now _)
end Go.Proofs.YtbflblmkdnhboaaDoor.Pu
namespace Go.Proofs.YtbflblmkdnhboaaDoor.Pu
open Go.RowKit Go.Proofs.YtbflblmkdnhboaaDoorW.PrintWords Go.Proofs.YtbflblmkdnhboaaDoorW.PrintLast Go.Proofs.YtbflblmkdnhboaaDoorW.PrintMore Go.Proofs.YtbflblmkdnhboaaDoor.Pr
theorem FnExactContextOfRules (n : Int) (l : List LR) (_ : (Lit.int .i64 n).wf = true) (hl : l.length ≤ 9223372036854775807) (_ : ∀ x ∈ l, (Lit.int .i64 x.f0).wf = true ∧ (Lit.int .i64 x.f1).wf = true) : ∃ k, laws_FnExactContextOfRules.f k n l = some true := by
  apply Ev.rounds
  unfold laws_FnExactContextOfRules.f
  obtain ⟨m, hm, hm2⟩ := sz_val l hl
  rw [hm]
  simp only [Option.bind_some]
  by_cases h : m < 0
  · exact Ev.congr (fun k => by rw [if_pos h]) (Ev.now true)
  · have hle := hm2 (by omega)
    have hlc : (l.map conv).length ≤ 1048576 := by rw [List.length_map]; exact hle
    have hS := corS_val n (l.map conv) hlc
    have hI := corI_val n (l.map conv) hlc
    have hq := corV_len n (l.map conv)
    generalize corV n (l.map conv) = q at hS hI hq
    refine Ev.congr (fun k => by rw [if_neg h]) ?_
    refine Ev.bind (toRule_val l hle) ?_
    refine Ev.bind hS ?_
    refine Ev.bind (toRule_val l hle) ?_
    refine Ev.bind hI ?_
    refine Ev.bind (eqC_self q.1 q.2.1 (by omega)) ?_
    refine Ev.congr (fun k => by rw [if_pos rfl, show (q.2.2 != q.2.2) = false from by simp]) ?_
    refine Ev.step (fun k => by simp only [laws_FnExactContextOfRules.j0]; rw [if_neg (by decide)]) ?_
    refine Ev.bind (toRule_val l hle) ?_
    refine Ev.bind (eqRule_self _ (by omega)) ?_
    refine Ev.congr (fun k => by rw [if_pos rfl]) ?_
    refine Ev.bind (mark_val _ hlc) ?_
    refine Ev.congr (fun k => by rw [if_neg (mark_pos _)]) ?_
    refine Ev.bind (eqC_self q.1 q.2.1 (by omega)) ?_
    refine Ev.congr (fun k => by rw [if_pos rfl, show (q.2.2 != q.2.2) = false from by simp]) ?_
    refine Ev.step (fun k => by simp only [laws_FnExactContextOfRules.j1]; rw [if_neg (by decide)]) ?_
    refine Ev.bind (markC_val q.1 q.2.1 (by omega)) ?_
    refine Ev.bind (heldC_val q.1 q.2.1 (by omega)) ?_
    refine Ev.congr (fun k => by rw [if_neg (markC_pos _), if_pos rfl]) ?_
    refine Ev.bind (toRule_val l hle) ?_
    refine Ev.bind hI ?_
    refine Ev.bind (eqC_self q.1 q.2.1 (by omega)) ?_
    refine Ev.congr (fun k => by rw [if_pos rfl, show (q.2.2 != q.2.2) = false from by simp]) ?_
    refine Ev.step (fun k => by simp only [laws_FnExactContextOfRules.j2]; rw [if_neg (by decide)]) ?_
    refine Ev.bind (heldC_val q.1 q.2.1 (by omega)) ?_
    exact Ev.congr (fun k => by rw [if_neg (markC_pos _), if_pos rfl]) (Ev.now true)
end Go.Proofs.YtbflblmkdnhboaaDoor.Pu
