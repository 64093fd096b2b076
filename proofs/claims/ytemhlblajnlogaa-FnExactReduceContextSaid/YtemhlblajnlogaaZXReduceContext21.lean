/- What the law needs of the program's functions as plain functions, of the proofs that their calls answer so, and of plain laws: gathered by a program of this place (pack.py) out of its printed texts. No condition beyond what each statement says. -/
import Derived.Test.YtemhlblajnlogaaZXReduceContext10
import Derived.Test.YtemhlblajnlogaaZXReduceContext19
import Derived.Test.YtemhlblajnlogaaZXReduceContext18
import Derived.Test.YtemhlblajnlogaaZXReduceContext20
import Derived.Test.YtemhlblajnlogaaZXReduceContext12
namespace Go.Proofs.Ytemhlblajnlogaa.Pu
open Go.RowKit Go.Proofs.YtemhlblajnlogaaW.PrintWords Go.Proofs.YtemhlblajnlogaaW.PrintLast Go.Proofs.YtemhlblajnlogaaW.PrintMore Go.Proofs.Ytemhlblajnlogaa.Pr
theorem withO_val {C : Nat × List Nat} (h : okC C) {o : Nat} (ho : o < 256) : Ev (fun k => impl_without.f k (C.1 : Int) (cast C.2) (o : Int) 0) ((C.1 : Int), cast (keptR C.2 o C.2.length)) := by
  obtain ⟨h1, h2, h3⟩ := h
  have := withI_val C.1 (by omega) C.2 h2 (fun i => lt_256 (by omega) (row_lt h3 i)) o 0 ho (by decide)
  rw [diff_zero, elN_full (by omega), List.length_range, leftR_full (by omega) h3] at this
  exact this
theorem withA_val {C : Nat × List Nat} (h : okC C) {a : Nat} (ha : a < 256) : Ev (fun k => impl_without.f k (C.1 : Int) (cast C.2) 0 (a : Int)) (((dropN C.1 C.2 a).1 : Int), cast (dropN C.1 C.2 a).2) := by
  obtain ⟨h1, h2, h3⟩ := h
  exact withI_val C.1 (by omega) C.2 h2 (fun i => lt_256 (by omega) (row_lt h3 i)) 0 a (by decide) ha
theorem accO_val {C : Nat × List Nat} (h : okC C) : impl_ReduceContext_accepted0.f ((cast C.2).length : Int) (C.1 : Int) (cast C.2) = some ((redO C : Nat) : Int) := by
  unfold impl_ReduceContext_accepted0.f redO
  rw [cast_length, if_pos (by have := h.2.1; omega), Int.toNat_natCast]
theorem accA_val {C : Nat × List Nat} (h : okC C) : impl_ReduceContext_accepted1.f (C.1 : Int) (C.1 : Int) (cast C.2) = some ((redA C : Nat) : Int) := by
  unfold impl_ReduceContext_accepted1.f redA
  rw [cast_length, if_pos (by have := h.1; have := h.2.1; omega), Int.toNat_natCast]
theorem redI_val (n : Int) (l : List Int) (hl : l.length ≤ 1048576) : Ev (fun k => impl_ReduceContext.f k n l) (redV n l) := by
  unfold impl_ReduceContext.f
  refine Ev.bind (clarI_val n l hl) ?_
  unfold redV
  cases hc : ctxB n l with
  | false =>
    rw [show clarV n l = (0, [], false) from by unfold clarV; rw [hc, if_neg (by decide)], if_neg (by decide)]
    exact Ev.congr (fun k => by rw [if_neg (by decide)]) (Ev.now _)
  | true =>
    obtain ⟨m, R, rfl, hm, rfl, hR, hb⟩ := ctxB_nat hc
    rw [clarV_nat hm hR hb, if_pos rfl, uncast, Int.toNat_natCast]
    have hC := clarN_ok hm hR
    have hO := keepO_ok hC
    unfold redN
    generalize clarN m R = C at *
    refine Ev.congr (fun k => by rw [if_pos rfl, accO_val hC, Option.bind_some]) ?_
    refine Ev.bind (withO_val hC (lt_256 hC.2.1 (ofBits_lt _ _))) ?_
    refine Ev.congr (f := fun k => (impl_without.f k ((keepO C).1 : Int) (cast (keepO C).2) 0 ((redA (keepO C) : Nat) : Int)).bind fun bt => some (bt.1, bt.2, true)) (fun k => by
      show ((impl_ReduceContext_accepted1.f ((keepO C).1 : Int) ((keepO C).1 : Int) (cast (keepO C).2)).bind _) = _
      rw [accA_val hO, Option.bind_some]; rfl) ?_
    refine Ev.bind (withA_val hO (lt_256 (show (keepO C).1 ≤ 8 by have := hO.1; omega) (ofBits_lt _ _))) ?_
    exact Ev.now _
theorem redS_l1 {C : Nat × List Nat} (h : okC C) : Ev (fun k => spec_ReduceContext.l1 k 0 0 (C.1 : Int) (cast C.2)) (((dropN C.1 C.2 (redA C)).1 : Int), cast (dropN C.1 C.2 (redA C)).2, true) := by
  obtain ⟨h1, h2, h3⟩ := h
  refine ev_fold (g := fun k (a : Nat) i => spec_ReduceContext.l1 k (a : Int) i (C.1 : Int) (cast C.2)) (bitStep fun j => redAttrV (C.1 : Int) (cast C.2) (j : Int)) (fun _ a => a < 2 ^ C.1) (N := C.1) ?_ (fun i a hi h => bitStep_lt hi h) C.1 0 0 (by omega) (Nat.two_pow_pos _) ?_
  · intro j a hj ha h
    refine Ev.step (f := fun k => (spec_IsReducibleAttribute.f k (C.1 : Int) (cast C.2) (j : Int)).bind fun t => if t = true then spec_ReduceContext.l1 k (Go.bits .or .i64 (a : Int) (shl .i64 1 (j : Int))) ((j + 1 : Nat) : Int) (C.1 : Int) (cast C.2) else spec_ReduceContext.l1 k (a : Int) ((j + 1 : Nat) : Int) (C.1 : Int) (cast C.2)) (fun k => ?_) ?_
    · simp only [spec_ReduceContext.l1]
      rw [if_pos (by omega), wrap_succ hj (by omega), wrapU_small _ (by omega) (by omega)]
      simp only [if_pos (show (0 : Int) ≤ (j : Int) by omega)]
    · refine Ev.bind (redAttrS_val _ _ (by rw [cast_length]; omega) _) ?_
      rw [or_bit (lt_256 (show C.1 ≤ 8 by omega) ha) (by omega)]
      unfold bitStep at h
      by_cases hb : redAttrV (C.1 : Int) (cast C.2) (j : Int) = true
      · rw [if_pos hb] at h; exact Ev.congr (fun k => if_pos hb) h
      · rw [if_neg hb] at h; exact Ev.congr (fun k => if_neg hb) h
  · intro b hb hlt
    rw [fold_bits] at hb
    subst hb
    refine Ev.step (f := fun k => (spec_DropAttributes.f k (C.1 : Int) (cast C.2) ((redA C : Nat) : Int)).bind fun t => some (t.1, t.2.1, t.2.2)) (fun k => ?_) ?_
    · simp only [spec_ReduceContext.l1]
      rw [if_neg (by omega)]
      rfl
    · refine Ev.bind (dropAS_val _ _ (by rw [cast_length]; omega) _) ?_
      rw [show redA C = ofBits (fun j => redAttrV (C.1 : Int) (cast C.2) (j : Int)) C.1 from rfl, dropA_nat h1 h2 h3 hlt]
      exact Ev.now _
theorem dropO_nat {C : Nat × List Nat} (h : okC C) {o : Nat} (ho : o < 2 ^ C.2.length) : dropOV (C.1 : Int) (cast C.2) (o : Int) = ((C.1 : Int), cast (keptR C.2 o C.2.length), true) := by
  unfold dropOV
  rw [show obsB (C.1 : Int) (cast C.2) (o : Int) = true from by unfold obsB; rw [ctxB_mk h.1 h.2.1 h.2.2, cast_length, isSetB_mk h.2.1 ho]; rfl, if_pos rfl, uncast, Int.toNat_natCast, cast_length]
theorem redS_l0 {C : Nat × List Nat} (h : okC C) : Ev (fun k => spec_ReduceContext.l0 k 0 0 (C.1 : Int) (cast C.2)) (((dropN (keepO C).1 (keepO C).2 (redA (keepO C))).1 : Int), cast (dropN (keepO C).1 (keepO C).2 (redA (keepO C))).2, true) := by
  have hC := h
  obtain ⟨h1, h2, h3⟩ := h
  refine ev_fold (g := fun k (a : Nat) i => spec_ReduceContext.l0 k (a : Int) i (C.1 : Int) (cast C.2)) (bitStep fun j => redObjV (C.1 : Int) (cast C.2) (j : Int)) (fun _ a => a < 2 ^ C.2.length) (N := C.2.length) ?_ (fun i a hi h => bitStep_lt hi h) C.2.length 0 0 (by omega) (Nat.two_pow_pos _) ?_
  · intro j a hj ha h
    refine Ev.step (f := fun k => (spec_IsReducibleObject.f k (C.1 : Int) (cast C.2) (j : Int)).bind fun t => if t = true then spec_ReduceContext.l0 k (Go.bits .or .i64 (a : Int) (shl .i64 1 (j : Int))) ((j + 1 : Nat) : Int) (C.1 : Int) (cast C.2) else spec_ReduceContext.l0 k (a : Int) ((j + 1 : Nat) : Int) (C.1 : Int) (cast C.2)) (fun k => ?_) ?_
    · simp only [spec_ReduceContext.l0]
      rw [if_pos (by rw [cast_length]; omega), wrap_succ hj (by omega), wrapU_small _ (by omega) (by omega)]
      simp only [if_pos (show (0 : Int) ≤ (j : Int) by omega)]
    · refine Ev.bind (redObjS_val _ _ (by rw [cast_length]; omega) _) ?_
      rw [or_bit (lt_256 h2 ha) (by omega)]
      unfold bitStep at h
      by_cases hb : redObjV (C.1 : Int) (cast C.2) (j : Int) = true
      · rw [if_pos hb] at h; exact Ev.congr (fun k => if_pos hb) h
      · rw [if_neg hb] at h; exact Ev.congr (fun k => if_neg hb) h
  · intro b hb hlt
    rw [fold_bits] at hb
    subst hb
    refine Ev.step (f := fun k => (spec_DropObjects.f k (C.1 : Int) (cast C.2) ((redO C : Nat) : Int)).bind fun t => spec_ReduceContext.l1 k 0 0 t.1 t.2.1) (fun k => ?_) ?_
    · simp only [spec_ReduceContext.l0]
      rw [if_neg (by rw [cast_length]; omega)]
      rfl
    · refine Ev.bind (dropOS_val _ _ (by rw [cast_length]; omega) _) ?_
      rw [show redO C = ofBits (fun j => redObjV (C.1 : Int) (cast C.2) (j : Int)) C.2.length from rfl, dropO_nat hC hlt]
      exact redS_l1 (keepO_ok hC)
theorem redS_val (n : Int) (l : List Int) (hl : l.length ≤ 1048576) : Ev (fun k => spec_ReduceContext.f k n l) (redV n l) := by
  unfold spec_ReduceContext.f
  refine Ev.bind (clarS_val n l hl) ?_
  unfold redV
  cases hc : ctxB n l with
  | false =>
    rw [show clarV n l = (0, [], false) from by unfold clarV; rw [hc, if_neg (by decide)], if_neg (by decide)]
    exact Ev.congr (fun k => if_neg (by decide)) (Ev.now _)
  | true =>
    obtain ⟨m, R, rfl, hm, rfl, hR, hb⟩ := ctxB_nat hc
    rw [clarV_nat hm hR hb, if_pos rfl, uncast, Int.toNat_natCast]
    exact Ev.congr (fun k => if_pos rfl) (redS_l0 (clarN_ok hm hR))
end Go.Proofs.Ytemhlblajnlogaa.Pu
namespace Go.Proofs.Ytemhlblajnlogaa.Pu
open Go.RowKit Go.Proofs.YtemhlblajnlogaaW.PrintWords Go.Proofs.YtemhlblajnlogaaW.PrintLast Go.Proofs.YtemhlblajnlogaaW.PrintMore Go.Proofs.Ytemhlblajnlogaa.Pr
theorem FnExactReduceContext (x0 : S24) (_ : (Lit.int .i64 x0.f0).wf = true ∧ ∀ x ∈ x0.f1, (Lit.int .i64 x).wf = true) (hl : x0.f1.length ≤ 9223372036854775807) : ∃ k, laws_FnExactReduceContext.f k x0.f0 x0.f1 = some true := by
  apply Ev.rounds
  unfold laws_FnExactReduceContext.f
  obtain ⟨m, hm, hm2⟩ := szC_val x0.f0 x0.f1 hl
  rw [hm]
  simp only [Option.bind_some]
  by_cases h : m < 0
  · exact Ev.congr (fun k => by rw [if_pos h]) (Ev.now true)
  · have hle := hm2 (by omega)
    have hS := redS_val x0.f0 x0.f1 hle
    have hI := redI_val x0.f0 x0.f1 hle
    have hV := redV_length x0.f0 x0.f1
    generalize redV x0.f0 x0.f1 = q at hS hI hV
    have hq : q.2.1.length ≤ 1048576 := by omega
    refine Ev.congr (fun k => by rw [if_neg h]) ?_
    refine Ev.bind (toC_val _ _ hle) ?_
    refine Ev.bind hS ?_
    refine Ev.bind (toC_val _ _ hle) ?_
    refine Ev.bind hI ?_
    refine Ev.bind (eqC_self q.1 q.2.1 (by omega)) ?_
    refine Ev.congr (fun k => by rw [if_pos rfl, show (q.2.2 != q.2.2) = false from by simp]) ?_
    refine Ev.step (fun k => by simp only [laws_FnExactReduceContext.j0]; rw [if_neg (by decide)]) ?_
    refine Ev.bind (toC_val _ _ hle) ?_
    refine Ev.bind (eqC_self x0.f0 x0.f1 hl) ?_
    refine Ev.congr (fun k => by rw [if_pos rfl]) ?_
    refine Ev.bind (markC_val x0.f0 x0.f1 hle) ?_
    refine Ev.congr (fun k => by rw [if_neg (markC_pos _)]) ?_
    refine Ev.bind (eqC_self q.1 q.2.1 (by omega)) ?_
    refine Ev.congr (fun k => by rw [if_pos rfl, show (q.2.2 != q.2.2) = false from by simp]) ?_
    refine Ev.step (fun k => by simp only [laws_FnExactReduceContext.j1]; rw [if_neg (by decide)]) ?_
    refine Ev.bind (markC_val q.1 q.2.1 hq) ?_
    refine Ev.bind (heldC_val q.1 q.2.1 hq) ?_
    refine Ev.congr (fun k => by rw [if_neg (markC_pos _), if_pos rfl]) ?_
    refine Ev.bind (toC_val _ _ hle) ?_
    refine Ev.bind hI ?_
    refine Ev.bind (eqC_self q.1 q.2.1 (by omega)) ?_
    refine Ev.congr (fun k => by rw [if_pos rfl, show (q.2.2 != q.2.2) = false from by simp]) ?_
    refine Ev.step (fun k => by simp only [laws_FnExactReduceContext.j2]; rw [if_neg (by decide)]) ?_
    refine Ev.bind (heldC_val q.1 q.2.1 hq) ?_
    exact Ev.congr (fun k => by rw [if_neg (markC_pos _), if_pos rfl]) (Ev.now true)
end Go.Proofs.Ytemhlblajnlogaa.Pu
