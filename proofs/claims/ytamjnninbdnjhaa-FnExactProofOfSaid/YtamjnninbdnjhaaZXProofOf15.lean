/- What the law needs of the program's functions as plain functions, of the proofs that their calls answer so, and of plain laws: gathered by a program of this place (pack.py) out of its printed texts. No condition beyond what each statement says. -/
import Derived.Test.YtamjnninbdnjhaaZXProofOf6
import Derived.Test.YtamjnninbdnjhaaZXProofOf13
import Derived.Test.YtamjnninbdnjhaaZXProofOf9
import Derived.Test.YtamjnninbdnjhaaZXProofOf12
import Derived.Test.YtamjnninbdnjhaaZXProofOf14
namespace Go.Proofs.Ytamjnninbdnjhaa.Pu
open Go.RowKit Go.Proofs.YtamjnninbdnjhaaW.PrintWords Go.Proofs.YtamjnninbdnjhaaW.PrintLast Go.Proofs.YtamjnninbdnjhaaW.PrintMore Go.Proofs.Ytamjnninbdnjhaa.Pr
/-- the first rule that a set does not respect -/
def pidx (l : List IR) (s : Nat) : Nat := l.findIdx fun x => !respV x (s : Int)
def pnext (l : List IR) (s : Nat) : Nat := s ||| (toP (l.getD (pidx l s) z46)).2
def prfL (l : List IR) (b : Nat) : Nat → Nat → List IS
  | 0, _ => []
  | k + 1, s => if sub b s = true then [] else ⟨(pidx l s : Int), (pnext l s : Int)⟩ :: prfL l b k (pnext l s)
def prfV (l : List IR) (r : IR) : List IS × Bool := if folV l r = true then (prfL l (toP r).2 256 (toP r).1, true) else ([], false)
theorem isAny_nat' {s : Nat} (h : s < 256) : isAny (s : Int) = true := by unfold isAny; rw [decide_eq_true_iff]; omega
theorem respV_nat {r : IR} (h : anyR r = true) {s : Nat} (hs : s < 256) : respV r (s : Int) = (!sub (toP r).1 s || sub (toP r).2 s) := by
  unfold respV
  rw [h, isAny_nat' hs, Int.toNat_natCast]
  rfl
theorem pidx_hit {l : List IR} (ha : l.all anyR = true) {s b : Nat} (hs : s < 256) (hb : sub b (clo (toR l) s) = true) (hn : sub b s = false) :
    ∃ h : pidx l s < l.length, respV l[pidx l s] (s : Int) = false ∧ (∀ j (_ : j < pidx l s) (hj : j < l.length), respV l[j] (s : Int) = true) ∧ (l.any fun x => !respV x (s : Int)) = true := by
  have hany : ∃ x ∈ l, (fun x => !respV x (s : Int)) x = true := by
    by_cases h : ∃ x ∈ l, (fun x => !respV x (s : Int)) x = true
    · exact h
    · exfalso
      have hr : resp (toR l) s := by
        intro r hr hsub
        obtain ⟨x, hx, rfl⟩ := List.mem_map.1 hr
        have hx' := List.all_eq_true.1 ha x hx
        have : respV x (s : Int) = true := by
          cases e : respV x (s : Int) with
          | true => rfl
          | false => exact absurd ⟨x, hx, by simp [e]⟩ h
        rw [respV_nat hx' hs, hsub] at this
        simpa using this
      have := (clo_spec (toR_small ha) hs).2.2.2 s (sub_refl s) hr
      rw [sub_trans hb this] at hn
      cases hn
  obtain ⟨x, hx, hp⟩ := hany
  have hlt : pidx l s < l.length := List.findIdx_lt_length_of_exists ⟨x, hx, hp⟩
  have h1 : (!respV l[pidx l s] (s : Int)) = true := List.findIdx_getElem (p := fun x => !respV x (s : Int)) (w := hlt)
  refine ⟨hlt, by simpa using h1, fun j hj hjl => ?_, List.any_eq_true.2 ⟨x, hx, hp⟩⟩
  have := List.not_of_lt_findIdx (p := fun x => !respV x (s : Int)) hj
  simpa using this
theorem getD_of {α : Type} {l : List α} {i : Nat} (h : i < l.length) (d : α) : l.getD i d = l[i] := by rw [List.getD_eq_getElem?_getD, List.getElem?_eq_getElem h]; rfl
theorem pnext_lt {l : List IR} (ha : l.all anyR = true) {s b : Nat} (hs : s < 256) (hb : sub b (clo (toR l) s) = true) (hn : sub b s = false) :
    s < pnext l s ∧ pnext l s < 256 ∧ sub b (clo (toR l) (pnext l s)) = true ∧ (l.getD (pidx l s) z46).f1 = ((toP (l.getD (pidx l s) z46)).2 : Int) ∧ (toP (l.getD (pidx l s) z46)).2 < 256 := by
  obtain ⟨h, h1, _, _⟩ := pidx_hit ha hs hb hn
  have hx := List.all_eq_true.1 ha _ (List.getElem_mem h)
  obtain ⟨e1, e2, e3, e4⟩ := anyR_nat hx
  unfold pnext
  rw [getD_of h]
  rw [respV_nat hx hs] at h1
  have hns : sub (toP l[pidx l s]).2 s = false := by
    cases e : sub (toP l[pidx l s]).2 s with
    | false => rfl
    | true => rw [e, Bool.or_true] at h1; cases h1
  have hlt : s ||| (toP l[pidx l s]).2 < 256 := or256 hs e4
  refine ⟨?_, hlt, ?_, e2, e4⟩
  · have hle := sub_le (sub_or_left s (toP l[pidx l s]).2)
    have hne : s ≠ s ||| (toP l[pidx l s]).2 := fun e => by
      have := sub_or_right s (toP l[pidx l s]).2
      rw [← e, hns] at this
      cases this
    omega
  · have hR := toR_small ha
    refine sub_trans hb ((clo_spec hR hs).2.2.2 _ (sub_trans (sub_or_left _ _) (clo_spec hR hlt).2.1) (clo_spec hR hlt).2.2.1)
theorem prfI_loop (l : List IR) (_hl : l.length ≤ 9223372036854775807) (ha : l.all anyR = true) (a : Int) (b : Nat) (hb : b < 256) : ∀ (d s : Nat) (out : List IS), s < 256 → 256 - s ≤ d → out.length ≤ s → sub b (clo (toR l) s) = true →
    Ev (fun k => impl_ProofOf.l0 k l out a (b : Int) (s : Int)) (out ++ prfL l b d s, true) := by
  intro d
  induction d with
  | zero => intro s out hs h; omega
  | succ d ih =>
    intro s out hs h ho hc
    cases hn : sub b s with
    | true =>
      refine Ev.step (f := fun _ => some (out, true)) (fun k => ?_) ?_
      · simp only [impl_ProofOf.l0]
        rw [inSet_val hb hs, Option.bind_some, hn, if_pos rfl]
      · rw [prfL, if_pos hn, List.append_nil]; exact Ev.now _
    | false =>
      obtain ⟨h1, h2, h3, h4⟩ := pidx_hit ha hs hc hn
      obtain ⟨k1, k2, k3, k4, k5⟩ := pnext_lt ha hs hc hn
      refine Ev.step (f := fun k => impl_ProofOf.l0 k l (out ++ [⟨(pidx l s : Int), (pnext l s : Int)⟩]) a (b : Int) (pnext l s : Int)) (fun k => ?_) ?_
      · simp only [impl_ProofOf.l0, impl_ProofOf_IndexFunc0.f]
        rw [inSet_val hb hs, Option.bind_some, hn, if_neg (by decide), Option.bind_some, show idxF (fun x => !respV x (s : Int)) l = (pidx l s : Int) from by unfold idxF; rw [if_pos h4]; rfl, if_pos (by omega), if_pos (by omega), if_pos (by omega), rdR, k4, or_nat (by omega) (by omega)]
        rfl
      · rw [prfL, if_neg (by rw [hn]; decide)]
        have := ih (pnext l s) (out ++ [⟨(pidx l s : Int), (pnext l s : Int)⟩]) k2 (by omega) (by rw [List.length_append, List.length_singleton]; omega) k3
        rw [List.append_assoc] at this
        exact this
theorem prfS_find (l : List IR) (hl : l.length ≤ 9223372036854775807) (a b : Int) (s : Nat) (out : List IS) (ho : out.length ≤ 256) (h : pidx l s < l.length) (h1 : respV l[pidx l s] (s : Int) = false) (h3 : ∀ j (_ : j < pidx l s) (hj : j < l.length), respV l[j] (s : Int) = true) {res : List IS × Bool}
    (hr : Ev (fun k => spec_ProofOf.l0 k l (out ++ [⟨(pidx l s : Int), Go.bits .or .i64 (s : Int) (l.getD (pidx l s) z46).f1⟩]) (Go.bits .or .i64 (s : Int) (l.getD (pidx l s) z46).f1) a b) res) : ∀ (d i : Nat), i + d = pidx l s → Ev (fun k => spec_ProofOf.l1 k l out (s : Int) (i : Int) a b) res := by
  intro d
  induction d with
  | zero =>
    intro i hi
    obtain rfl : i = pidx l s := by omega
    refine Ev.step (fun k => ?_) hr
    simp only [spec_ProofOf.l1]
    rw [if_pos (by omega), if_pos (by omega), rdR, respS_val, Option.bind_some, show (⟨(l.getD (pidx l s) z46).f0, (l.getD (pidx l s) z46).f1⟩ : IR) = l[pidx l s] from by rw [getD_of h], h1, if_neg (by decide), if_pos (by omega)]
  | succ d ih =>
    intro i hi
    have hil : i < l.length := by omega
    refine Ev.step (fun k => ?_) (ih (i + 1) (by omega))
    simp only [spec_ProofOf.l1]
    rw [if_pos (by omega), if_pos (by omega), rdR, respS_val, Option.bind_some, show (⟨(l.getD i z46).f0, (l.getD i z46).f1⟩ : IR) = l[i] from by rw [getD_of hil], h3 i (by omega) hil, if_pos rfl, wrap_succ hil hl]
theorem prfS_loop (l : List IR) (hl : l.length ≤ 9223372036854775807) (ha : l.all anyR = true) (a : Int) (b : Nat) (hb : b < 256) : ∀ (d s : Nat) (out : List IS), s < 256 → 256 - s ≤ d → out.length ≤ s → sub b (clo (toR l) s) = true →
    Ev (fun k => spec_ProofOf.l0 k l out (s : Int) a (b : Int)) (out ++ prfL l b d s, true) := by
  intro d
  induction d with
  | zero => intro s out hs h; omega
  | succ d ih =>
    intro s out hs h ho hc
    cases hn : sub b s with
    | true =>
      refine Ev.step (f := fun _ => some (out, true)) (fun k => ?_) ?_
      · simp only [spec_ProofOf.l0]
        rw [if_pos (by rw [and_nat (by omega) (by omega), Nat.and_comm, show b &&& s = b from by simpa [sub] using hn])]
      · rw [prfL, if_pos hn, List.append_nil]; exact Ev.now _
    | false =>
      obtain ⟨h1, h2, h3, h4⟩ := pidx_hit ha hs hc hn
      obtain ⟨k1, k2, k3, k4, k5⟩ := pnext_lt ha hs hc hn
      refine Ev.step (f := fun k => spec_ProofOf.l1 k l out (s : Int) 0 a (b : Int)) (fun k => ?_) ?_
      · simp only [spec_ProofOf.l0]
        rw [if_neg (by
          rw [and_nat (by omega) (by omega), Nat.and_comm, Int.natCast_inj]
          intro e
          rw [show sub b s = true from by unfold sub; rw [e]; simp] at hn
          cases hn)]
      · refine prfS_find l hl a (b : Int) s out (by omega) h1 h2 h3 ?_ (pidx l s) 0 (by omega)
        rw [k4, or_nat (by omega) (by omega), prfL, if_neg (by rw [hn]; decide)]
        have := ih (pnext l s) (out ++ [⟨(pidx l s : Int), (pnext l s : Int)⟩]) k2 (by omega) (by rw [List.length_append, List.length_singleton]; omega) k3
        rw [List.append_assoc] at this
        exact this
theorem prfL_length (l : List IR) (b : Nat) : ∀ (d s : Nat), (prfL l b d s).length ≤ d
  | 0, s => Nat.le_refl _
  | d + 1, s => by
    rw [prfL]
    split
    · exact Nat.zero_le _
    · rw [List.length_cons]
      exact Nat.succ_le_succ (prfL_length l b d _)
theorem prfV_length (l : List IR) (r : IR) : (prfV l r).1.length ≤ 256 := by
  unfold prfV
  split
  · exact prfL_length _ _ _ _
  · exact Nat.zero_le _
theorem folV_parts {l : List IR} {r : IR} (h : folV l r = true) : l.all anyR = true ∧ anyR r = true ∧ sub (toP r).2 (clo (toR l) (toP r).1) = true := by
  unfold folV at h
  rw [Bool.and_eq_true, Bool.and_eq_true] at h
  exact h
theorem prfI_val (l : List IR) (hl : l.length ≤ 9223372036854775807) (a b : Int) : Ev (fun k => impl_ProofOf.f k l a b) (prfV l ⟨a, b⟩) := by
  unfold impl_ProofOf.f prfV
  refine Ev.bind (folI_val l hl a b) ?_
  cases h : folV l ⟨a, b⟩ with
  | false => exact Ev.congr (fun k => by rw [if_neg (by decide)]; rfl) (Ev.now _)
  | true =>
    obtain ⟨ha, hr, hs⟩ := folV_parts h
    obtain ⟨e1, e2, e3, e4⟩ := anyR_nat hr
    refine Ev.congr (fun k => by rw [if_pos rfl]) ?_
    rw [if_pos rfl]
    have := prfI_loop l hl ha a (toP ⟨a, b⟩).2 e4 256 (toP ⟨a, b⟩).1 [] e3 (by omega) (Nat.zero_le _) hs
    rw [← e1, ← e2, List.nil_append] at this
    exact this
theorem prfS_val (l : List IR) (hl : l.length ≤ 9223372036854775807) (a b : Int) : Ev (fun k => spec_ProofOf.f k l a b) (prfV l ⟨a, b⟩) := by
  unfold spec_ProofOf.f prfV
  simp only [Option.bind_some]
  refine Ev.bind (folS_val l hl a b) ?_
  cases h : folV l ⟨a, b⟩ with
  | false => exact Ev.congr (fun k => by rw [if_neg (by decide)]; rfl) (Ev.now _)
  | true =>
    obtain ⟨ha, hr, hs⟩ := folV_parts h
    obtain ⟨e1, e2, e3, e4⟩ := anyR_nat hr
    refine Ev.congr (fun k => by rw [if_pos rfl]) ?_
    rw [if_pos rfl]
    have := prfS_loop l hl ha a (toP ⟨a, b⟩).2 e4 256 (toP ⟨a, b⟩).1 [] e3 (by omega) (Nat.zero_le _) hs
    rw [← e1, ← e2, List.nil_append] at this
    exact this
end Go.Proofs.Ytamjnninbdnjhaa.Pu
namespace Go.Proofs.Ytamjnninbdnjhaa.Pu
open Go.RowKit Go.Proofs.YtamjnninbdnjhaaW.PrintWords Go.Proofs.YtamjnninbdnjhaaW.PrintLast Go.Proofs.YtamjnninbdnjhaaW.PrintMore Go.Proofs.Ytamjnninbdnjhaa.Pr
theorem FnExactProofOf (l : List LR) (x : LR) (hl : l.length ≤ 9223372036854775807) (_ : ∀ x ∈ l, (Lit.int .i64 x.f0).wf = true ∧ (Lit.int .i64 x.f1).wf = true) (_ : (Lit.int .i64 x.f0).wf = true ∧ (Lit.int .i64 x.f1).wf = true) : ∃ k, laws_FnExactProofOf.f k l x.f0 x.f1 = some true := by
  apply Ev.rounds
  unfold laws_FnExactProofOf.f
  obtain ⟨m, hm, hm2⟩ := sz_val l hl
  rw [hm]
  simp only [laws_toRule.f, Option.bind_some]
  by_cases h : m < 0
  · exact Ev.congr (fun k => by rw [if_pos h]) (Ev.now true)
  · have hle := hm2 (by omega)
    have hc : (l.map conv).length ≤ 1048576 := by rw [List.length_map]; omega
    have hv := prfV_length (l.map conv) ⟨x.f0, x.f1⟩
    have hS := prfS_val (l.map conv) (by omega) x.f0 x.f1
    have hI := prfI_val (l.map conv) (by omega) x.f0 x.f1
    generalize prfV (l.map conv) ⟨x.f0, x.f1⟩ = q at hv hS hI
    refine Ev.congr (fun k => by rw [if_neg h]) ?_
    refine Ev.bind (toRule_val l hle) ?_
    refine Ev.bind hS ?_
    refine Ev.bind (toRule_val l hle) ?_
    refine Ev.bind hI ?_
    refine Ev.bind (eqStep_self q.1 (by omega)) ?_
    refine Ev.congr (fun k => by rw [if_pos rfl, show (q.2 != q.2) = false from by simp]) ?_
    refine Ev.step (fun k => by simp only [laws_FnExactProofOf.j0]; rw [if_neg (by decide)]) ?_
    refine Ev.bind (toRule_val l hle) ?_
    refine Ev.bind (eqRule_self _ (by omega)) ?_
    refine Ev.congr (fun k => by rw [if_pos rfl]) ?_
    refine Ev.bind (mark_val _ hc) ?_
    refine Ev.congr (fun k => by rw [if_neg (mark_pos _)]) ?_
    refine Ev.bind (eqStep_self q.1 (by omega)) ?_
    refine Ev.congr (fun k => by rw [if_pos rfl, show (q.2 != q.2) = false from by simp]) ?_
    refine Ev.step (fun k => by simp only [laws_FnExactProofOf.j1, laws_toRule.f, Option.bind_some]; rw [if_neg (by decide)]) ?_
    refine Ev.bind (markS_val q.1 (by omega)) ?_
    refine Ev.bind (heldS_val q.1 (by omega)) ?_
    refine Ev.congr (fun k => by rw [if_neg (markS_pos _), if_pos rfl]) ?_
    refine Ev.bind (toRule_val l hle) ?_
    refine Ev.bind hI ?_
    refine Ev.bind (eqStep_self q.1 (by omega)) ?_
    refine Ev.congr (fun k => by rw [if_pos rfl, show (q.2 != q.2) = false from by simp]) ?_
    refine Ev.step (fun k => by simp only [laws_FnExactProofOf.j2]; rw [if_neg (by decide)]) ?_
    refine Ev.bind (heldS_val q.1 (by omega)) ?_
    exact Ev.congr (fun k => by rw [if_neg (markS_pos _), if_pos rfl]) (Ev.now true)
end Go.Proofs.Ytamjnninbdnjhaa.Pu
