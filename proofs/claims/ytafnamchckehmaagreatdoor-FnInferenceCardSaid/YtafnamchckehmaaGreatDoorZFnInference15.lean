/- Functions of the program as plain functions, proofs that their calls answer so, and plain laws: what the law needs. No condition beyond what each statement says. -/
import Derived.Test.YtafnamchckehmaaGreatDoorZFnInference14
namespace Go.Proofs.YtafnamchckehmaaGreatDoor.Pu
open Go.Proofs.YtafnamchckehmaaGreatDoor.Pr
theorem lecR_congr {A B : List Nat} (h : ∀ x, x ∈ A ↔ x ∈ B) : lecR A = lecR B := by
  unfold lecR
  exact lecF_congr fun s _ => decide_eq_decide.2 (h s)
def freeB (c : Nat → Nat) (out : List Nat) (s : Nat) : Bool := !out.any fun p => decide (p ≠ s) && (sub p s && !sub (c p) s)
def stemStep (c : Nat → Nat) (out : List Nat) (s : Nat) : List Nat := if decide (c s ≠ s) && freeB c out s then out ++ [s] else out
def stemL (c : Nat → Nat) (L : List Nat) : List Nat := L.foldl (stemStep c) []
theorem upTo_pair (f : Nat → Nat) : ∀ l : List Nat, upTo f l = true → l.Pairwise fun x y => f x ≤ f y
  | [], _ => List.Pairwise.nil
  | [x], _ => List.pairwise_singleton _ _
  | x :: y :: l, h => by
    unfold upTo at h
    rw [Bool.and_eq_true, Nat.ble_eq] at h
    have ih := upTo_pair f (y :: l) h.2
    refine List.Pairwise.cons (fun z hz => ?_) ih
    rcases List.mem_cons.1 hz with rfl | hz'
    · exact h.1
    · exact Nat.le_trans h.1 ((List.pairwise_cons.1 ih).1 z hz')
theorem pc_mono_all : ((List.range 256).all fun s => (List.range 256).all fun p => !(sub p s) || p == s || Nat.blt (pc p) (pc s)) = true := by decide +kernel
theorem pc_mono {p s : Nat} (hp : p < 256) (hs : s < 256) (h : sub p s = true) (hne : p ≠ s) : pc p < pc s := by
  have h1 := List.all_eq_true.1 (List.all_eq_true.1 pc_mono_all s (List.mem_range.2 hs)) p (List.mem_range.2 hp)
  rw [h] at h1
  simp only [Bool.not_true, Bool.false_or, Bool.or_eq_true, beq_iff_eq, Nat.blt_eq] at h1
  exact h1.resolve_left hne
theorem stOut_ok {m : Nat} (hm : m ≤ 6) : (∀ x, x < 2 ^ m → x ∈ stOut m) ∧ (stOut m).length = 2 ^ m ∧ (stOut m).Pairwise fun x y => pc x ≤ pc y := by
  have h := stGood_all ⟨m, by omega⟩
  unfold stGood at h
  rw [Bool.and_eq_true, Bool.and_eq_true, beq_iff_eq] at h
  obtain ⟨⟨h1, h2⟩, h3⟩ := h
  refine ⟨fun x hx => ?_, h1, upTo_pair pc _ h3⟩
  have := List.all_eq_true.1 h2 x (List.mem_range.2 hx)
  simpa using this
theorem stOut_mem {m : Nat} (hm : m ≤ 6) {x : Nat} : x ∈ stOut m ↔ x < 2 ^ m := by
  obtain ⟨h1, h2, _⟩ := stOut_ok hm
  refine ⟨fun hx => ?_, h1 x⟩
  refine Classical.byContradiction fun hn => ?_
  have hs : (List.range (2 ^ m)) ⊆ (stOut m).erase x := fun y hy => by
    have hy' := List.mem_range.1 hy
    have : y ≠ x := fun e => hn (e ▸ hy')
    exact (List.mem_erase_of_ne this).2 (h1 y hy')
  have h3 := List.nodup_range.length_le_of_subset hs
  rw [List.length_range, List.length_erase_of_mem hx] at h3
  have := Nat.two_pow_pos m
  omega
theorem stem_inv (c : Nat → Nat) {m : Nat} (hm : m ≤ 8) {L : List Nat} (hL : ∀ x, x ∈ L ↔ x < 2 ^ m) (hp : L.Pairwise fun x y => pc x ≤ pc y) :
    ∀ (rest done : List Nat), L = done ++ rest → ∀ out : List Nat, (∀ p, p ∈ out ↔ p ∈ done ∧ isP c p = true) → ∀ p, p ∈ rest.foldl (stemStep c) out ↔ p ∈ L ∧ isP c p = true := by
  have h8 := pow_256 hm
  intro rest
  induction rest with
  | nil =>
    intro done h out ho p
    rw [List.append_nil] at h
    rw [h]
    exact ho p
  | cons s rest ih =>
    intro done h out ho
    rw [List.foldl_cons]
    refine ih (done ++ [s]) (by rw [h, List.append_assoc]; rfl) _ fun p => ?_
    have hsL : s ∈ L := by rw [h]; simp
    have hs := (hL s).1 hsL
    have hfree : freeB c out s = true ↔ ∀ p, isP c p = true → sub p s = true → p ≠ s → sub (c p) s = true := by
      unfold freeB
      rw [Bool.not_eq_true', List.any_eq_false]
      constructor
      · intro hf p hP hsub hne
        have hlt : p < 2 ^ m := Nat.lt_of_le_of_lt (sub_le hsub) hs
        have hpL := (hL p).2 hlt
        have hpc := pc_mono (by omega) (by omega) hsub hne
        have hdone : p ∈ done := by
          rw [h, List.mem_append] at hpL
          rcases hpL with hd | hr
          · exact hd
          · rw [h] at hp
            have h1 := (List.pairwise_append.1 hp).2.1
            rcases List.mem_cons.1 hr with e | hr'
            · exact absurd e hne
            · have := (List.pairwise_cons.1 h1).1 p hr'
              omega
        have := hf p ((ho p).2 ⟨hdone, hP⟩)
        rw [decide_eq_true hne, hsub] at this
        simpa using this
      · intro hf p hpo
        obtain ⟨_, hP⟩ := (ho p).1 hpo
        by_cases hne : p = s
        · rw [decide_eq_false (fun h => h hne)]; simp
        · cases hsub : sub p s with
          | false => simp
          | true => rw [hf p hP hsub hne]; simp
    have hstep : (decide (c s ≠ s) && freeB c out s) = true ↔ isP c s = true := by
      rw [Bool.and_eq_true, decide_eq_true_iff, hfree, isP_iff]
    unfold stemStep
    by_cases hc : (decide (c s ≠ s) && freeB c out s) = true
    · rw [if_pos hc, List.mem_append, List.mem_append, List.mem_singleton, ho p]
      constructor
      · rintro (⟨h1, h2⟩ | rfl)
        · exact ⟨Or.inl h1, h2⟩
        · exact ⟨Or.inr rfl, hstep.1 hc⟩
      · rintro ⟨h1 | h1, h2⟩
        · exact Or.inl ⟨h1, h2⟩
        · exact Or.inr h1
    · rw [if_neg hc, ho p, List.mem_append, List.mem_singleton]
      constructor
      · rintro ⟨h1, h2⟩
        exact ⟨Or.inl h1, h2⟩
      · rintro ⟨h1 | rfl, h2⟩
        · exact ⟨h1, h2⟩
        · exact absurd (hstep.2 h2) hc
theorem stemL_mem (c : Nat → Nat) {m : Nat} (hm : m ≤ 6) {p : Nat} : p ∈ stemL c (stOut m) ↔ p < 2 ^ m ∧ isP c p = true := by
  have := stem_inv c (show m ≤ 8 by omega) (fun x => stOut_mem hm) (stOut_ok hm).2.2 (stOut m) [] rfl [] (fun p => by simp) p
  rw [stOut_mem hm] at this
  exact this
def psN (m : Nat) (c : Nat → Nat) : List Nat := keptN m (isP c)
theorem lec_stemL (c : Nat → Nat) {m : Nat} (hm : m ≤ 6) : lecR (stemL c (stOut m)) = psN m c := by
  unfold psN keptN
  refine lecR_congr fun x => ?_
  rw [stemL_mem c hm, List.mem_filter, List.mem_range]
theorem lec_pl (c : Nat → Nat) (m : Nat) : lecR (pl c (2 ^ m)) = psN m c := by
  unfold psN keptN
  refine lecR_congr fun x => ?_
  rw [mem_pl, List.mem_filter, List.mem_range]
theorem stemL_nodup (c : Nat → Nat) : ∀ (L out : List Nat), L.Nodup → out.Nodup → (∀ x ∈ L, x ∉ out) → (L.foldl (stemStep c) out).Nodup
  | [], out, _, ho, _ => ho
  | s :: L, out, hL, ho, hd => by
    rw [List.foldl_cons]
    have hn := List.nodup_cons.1 hL
    refine stemL_nodup c L _ hn.2 ?_ ?_
    · unfold stemStep
      split
      · rw [List.nodup_append]
        refine ⟨ho, by simp, fun a ha b hb => ?_⟩
        rw [List.mem_singleton] at hb
        subst hb
        exact fun e => hd b List.mem_cons_self (e ▸ ha)
      · exact ho
    · intro x hx
      unfold stemStep
      split
      · rw [List.mem_append, List.mem_singleton]
        rintro (h | rfl)
        · exact hd x (List.mem_cons_of_mem _ hx) h
        · exact hn.1 hx
      · exact hd x (List.mem_cons_of_mem _ hx)
end Go.Proofs.YtafnamchckehmaaGreatDoor.Pu
namespace Go.Proofs.YtafnamchckehmaaGreatDoor.Pu
open Go.RowKit Go.Proofs.YtafnamchckehmaaGreatDoorW.PrintWords Go.Proofs.YtafnamchckehmaaGreatDoorW.PrintLast Go.Proofs.YtafnamchckehmaaGreatDoorW.PrintMore Go.Proofs.YtafnamchckehmaaGreatDoor.Pr
def pidx (l : List IR) (s : Nat) : Nat := l.findIdx fun x => !respV x (s : Int)
def pnext (l : List IR) (s : Nat) : Nat := s ||| (toP (l.getD (pidx l s) z48)).2
def prfL (l : List IR) (b : Nat) : Nat → Nat → List IS
  | 0, _ => []
  | k + 1, s => if sub b s = true then [] else ⟨(pidx l s : Int), (pnext l s : Int)⟩ :: prfL l b k (pnext l s)
def prfV (l : List IR) (r : IR) : List IS × Bool := if folV l r = true then (prfL l (toP r).2 256 (toP r).1, true) else ([], false)
theorem isAny_nat' {s : Nat} (h : s < 256) : isAny (s : Int) = true := by unfold isAny; rw [decide_eq_true_iff]; omega
theorem respV_nat {r : IR} (h : anyR r = true) {s : Nat} (hs : s < 256) : respV r (s : Int) = (!sub (toP r).1 s || sub (toP r).2 s) := by
  unfold respV
  rw [h, isAny_nat' hs, Int.toNat_natCast]
  rfl
theorem pidx_hit {l : List IR} (ha : l.all anyR = true) {s b : Nat} (hs : s < 256) (hb : sub b (clo (toR l) s) = true) (hn : sub b s = false) :
    ∃ h : pidx l s < l.length, respV l[pidx l s] (s : Int) = false ∧ (∀ j (_ : j < pidx l s) (hj : j < l.length), respV l[j] (s : Int) = true) ∧ (l.any fun x => !respV x (s : Int)) = true := by
  have hany : ∃ x ∈ l, (fun x => !respV x (s : Int)) x = true := by
    by_cases h : ∃ x ∈ l, (fun x => !respV x (s : Int)) x = true
    · exact h
    · exfalso
      have hr : resp (toR l) s := by
        intro r hr hsub
        obtain ⟨x, hx, rfl⟩ := List.mem_map.1 hr
        have hx' := List.all_eq_true.1 ha x hx
        have : respV x (s : Int) = true := by
          cases e : respV x (s : Int) with
          | true => rfl
          | false => exact absurd ⟨x, hx, by simp [e]⟩ h
        rw [respV_nat hx' hs, hsub] at this
        simpa using this
      have := (clo_spec (toR_small ha) hs).2.2.2 s (sub_refl s) hr
      rw [sub_trans hb this] at hn
      cases hn
  obtain ⟨x, hx, hp⟩ := hany
  have hlt : pidx l s < l.length := List.findIdx_lt_length_of_exists ⟨x, hx, hp⟩
  have h1 : (!respV l[pidx l s] (s : Int)) = true := List.findIdx_getElem (p := fun x => !respV x (s : Int)) (w := hlt)
  refine ⟨hlt, by simpa using h1, fun j hj hjl => ?_, List.any_eq_true.2 ⟨x, hx, hp⟩⟩
  have := List.not_of_lt_findIdx (p := fun x => !respV x (s : Int)) hj
  simpa using this
theorem getD_of {α : Type} {l : List α} {i : Nat} (h : i < l.length) (d : α) : l.getD i d = l[i] := by rw [List.getD_eq_getElem?_getD, List.getElem?_eq_getElem h]; rfl
theorem pnext_lt {l : List IR} (ha : l.all anyR = true) {s b : Nat} (hs : s < 256) (hb : sub b (clo (toR l) s) = true) (hn : sub b s = false) :
    s < pnext l s ∧ pnext l s < 256 ∧ sub b (clo (toR l) (pnext l s)) = true ∧ (l.getD (pidx l s) z48).f1 = ((toP (l.getD (pidx l s) z48)).2 : Int) ∧ (toP (l.getD (pidx l s) z48)).2 < 256 := by
  obtain ⟨h, h1, _, _⟩ := pidx_hit ha hs hb hn
  have hx := List.all_eq_true.1 ha _ (List.getElem_mem h)
  obtain ⟨e1, e2, e3, e4⟩ := anyR_nat hx
  unfold pnext
  rw [getD_of h]
  rw [respV_nat hx hs] at h1
  have hns : sub (toP l[pidx l s]).2 s = false := by
    cases e : sub (toP l[pidx l s]).2 s with
    | false => rfl
    | true => rw [e, Bool.or_true] at h1; cases h1
  have hlt : s ||| (toP l[pidx l s]).2 < 256 := or256 hs e4
  refine ⟨?_, hlt, ?_, e2, e4⟩
  · have hle := sub_le (sub_or_left s (toP l[pidx l s]).2)
    have hne : s ≠ s ||| (toP l[pidx l s]).2 := fun e => by
      have := sub_or_right s (toP l[pidx l s]).2
      rw [← e, hns] at this
      cases this
    omega
  · have hR := toR_small ha
    refine sub_trans hb ((clo_spec hR hs).2.2.2 _ (sub_trans (sub_or_left _ _) (clo_spec hR hlt).2.1) (clo_spec hR hlt).2.2.1)
theorem prfI_loop (l : List IR) (_hl : l.length ≤ 9223372036854775807) (ha : l.all anyR = true) (a : Int) (b : Nat) (hb : b < 256) : ∀ (d s : Nat) (out : List IS), s < 256 → 256 - s ≤ d → out.length ≤ s → sub b (clo (toR l) s) = true →
    Ev (fun k => impl_ProofOf.l0 k l out a (b : Int) (s : Int)) (out ++ prfL l b d s, true) := by
  intro d
  induction d with
  | zero => intro s out hs h; omega
  | succ d ih =>
    intro s out hs h ho hc
    cases hn : sub b s with
    | true =>
      refine Ev.step (f := fun _ => some (out, true)) (fun k => ?_) ?_
      · simp only [impl_ProofOf.l0]
        rw [inSet_val hb hs, Option.bind_some, hn, if_pos rfl]
      · rw [prfL, if_pos hn, List.append_nil]; exact Ev.now _
    | false =>
      obtain ⟨h1, h2, h3, h4⟩ := pidx_hit ha hs hc hn
      obtain ⟨k1, k2, k3, k4, k5⟩ := pnext_lt ha hs hc hn
      refine Ev.step (f := fun k => impl_ProofOf.l0 k l (out ++ [⟨(pidx l s : Int), (pnext l s : Int)⟩]) a (b : Int) (pnext l s : Int)) (fun k => ?_) ?_
      · simp only [impl_ProofOf.l0, impl_ProofOf_IndexFunc0.f]
        rw [inSet_val hb hs, Option.bind_some, hn, if_neg (by decide), Option.bind_some, show idxF (fun x => !respV x (s : Int)) l = (pidx l s : Int) from by unfold idxF; rw [if_pos h4]; rfl, if_pos (by omega), if_pos (by omega), if_pos (by omega), rdR, k4, or_nat (by omega) (by omega)]
        rfl
      · rw [prfL, if_neg (by rw [hn]; decide)]
        have := ih (pnext l s) (out ++ [⟨(pidx l s : Int), (pnext l s : Int)⟩]) k2 (by omega) (by rw [List.length_append, List.length_singleton]; omega) k3
        rw [List.append_assoc] at this
        exact this
theorem prfS_find (l : List IR) (hl : l.length ≤ 9223372036854775807) (a b : Int) (s : Nat) (out : List IS) (ho : out.length ≤ 256) (h : pidx l s < l.length) (h1 : respV l[pidx l s] (s : Int) = false) (h3 : ∀ j (_ : j < pidx l s) (hj : j < l.length), respV l[j] (s : Int) = true) {res : List IS × Bool}
    (hr : Ev (fun k => spec_ProofOf.l0 k l (out ++ [⟨(pidx l s : Int), Go.bits .or .i64 (s : Int) (l.getD (pidx l s) z48).f1⟩]) (Go.bits .or .i64 (s : Int) (l.getD (pidx l s) z48).f1) a b) res) : ∀ (d i : Nat), i + d = pidx l s → Ev (fun k => spec_ProofOf.l1 k l out (s : Int) (i : Int) a b) res := by
  intro d
  induction d with
  | zero =>
    intro i hi
    obtain rfl : i = pidx l s := by omega
    refine Ev.step (fun k => ?_) hr
    simp only [spec_ProofOf.l1]
    rw [if_pos (by omega), if_pos (by omega), rdR, respS_val, Option.bind_some, show (⟨(l.getD (pidx l s) z48).f0, (l.getD (pidx l s) z48).f1⟩ : IR) = l[pidx l s] from by rw [getD_of h], h1, if_neg (by decide), if_pos (by omega)]
  | succ d ih =>
    intro i hi
    have hil : i < l.length := by omega
    refine Ev.step (fun k => ?_) (ih (i + 1) (by omega))
    simp only [spec_ProofOf.l1]
    rw [if_pos (by omega), if_pos (by omega), rdR, respS_val, Option.bind_some, show (⟨(l.getD i z48).f0, (l.getD i z48).f1⟩ : IR) = l[i] from by rw [getD_of hil], h3 i (by omega) hil, if_pos rfl, wrap_succ hil hl]
theorem prfS_loop (l : List IR) (hl : l.length ≤ 9223372036854775807) (ha : l.all anyR = true) (a : Int) (b : Nat) (hb : b < 256) : ∀ (d s : Nat) (out : List IS), s < 256 → 256 - s ≤ d → out.length ≤ s → sub b (clo (toR l) s) = true →
    Ev (fun k => spec_ProofOf.l0 k l out (s : Int) a (b : Int)) (out ++ prfL l b d s, true) := by
  intro d
  induction d with
  | zero => intro s out hs h; omega
  | succ d ih =>
    intro s out hs h ho hc
    cases hn : sub b s with
    | true =>
      refine Ev.step (f := fun _ => some (out, true)) (fun k => ?_) ?_
      · simp only [spec_ProofOf.l0]
        rw [if_pos (by rw [and_nat (by omega) (by omega), Nat.and_comm, show b &&& s = b from by simpa [sub] using hn])]
      · rw [prfL, if_pos hn, List.append_nil]; exact Ev.now _
    | false =>
      obtain ⟨h1, h2, h3, h4⟩ := pidx_hit ha hs hc hn
      obtain ⟨k1, k2, k3, k4, k5⟩ := pnext_lt ha hs hc hn
      refine Ev.step (f := fun k => spec_ProofOf.l1 k l out (s : Int) 0 a (b : Int)) (fun k => ?_) ?_
      · simp only [spec_ProofOf.l0]
        rw [if_neg (by
          rw [and_nat (by omega) (by omega), Nat.and_comm, Int.natCast_inj]
          intro e
          rw [show sub b s = true from by unfold sub; rw [e]; simp] at hn
          cases hn)]
      · refine prfS_find l hl a (b : Int) s out (by omega) h1 h2 h3 ?_ (pidx l s) 0 (by omega)
        rw [k4, or_nat (by omega) (by omega), prfL, if_neg (by rw [hn]; decide)]
        have := ih (pnext l s) (out ++ [⟨(pidx l s : Int), (pnext l s : Int)⟩]) k2 (by omega) (by rw [List.length_append, List.length_singleton]; omega) k3
        rw [List.append_assoc] at this
        exact this
theorem prfL_length (l : List IR) (b : Nat) : ∀ (d s : Nat), (prfL l b d s).length ≤ d
  | 0, s => Nat.le_refl _
  | d + 1, s => by
    rw [prfL]
    split
    · exact Nat.zero_le _
    · rw [List.length_cons]
      exact Nat.succ_le_succ (prfL_length l b d _)
theorem prfV_length (l : List IR) (r : IR) : (prfV l r).1.length ≤ 256 := by
  unfold prfV
  split
  · exact prfL_length _ _ _ _
  · exact Nat.zero_le _
theorem folV_parts {l : List IR} {r : IR} (h : folV l r = true) : l.all anyR = true ∧ anyR r = true ∧ sub (toP r).2 (clo (toR l) (toP r).1) = true := by
  unfold folV at h
  rw [Bool.and_eq_true, Bool.and_eq_true] at h
  exact h
theorem prfI_val (l : List IR) (hl : l.length ≤ 9223372036854775807) (a b : Int) : Ev (fun k => impl_ProofOf.f k l a b) (prfV l ⟨a, b⟩) := by
  unfold impl_ProofOf.f prfV
  refine Ev.bind (folI_val l hl a b) ?_
  cases h : folV l ⟨a, b⟩ with
  | false => exact Ev.congr (fun k => by rw [if_neg (by decide)]; rfl) (Ev.now _)
  | true =>
    obtain ⟨ha, hr, hs⟩ := folV_parts h
    obtain ⟨e1, e2, e3, e4⟩ := anyR_nat hr
    refine Ev.congr (fun k => by rw [if_pos rfl]) ?_
    rw [if_pos rfl]
    have := prfI_loop l hl ha a (toP ⟨a, b⟩).2 e4 256 (toP ⟨a, b⟩).1 [] e3 (by omega) (Nat.zero_le _) hs
    rw [← e1, ← e2, List.nil_append] at this
    exact this
theorem prfS_val (l : List IR) (hl : l.length ≤ 9223372036854775807) (a b : Int) : Ev (fun k => spec_ProofOf.f k l a b) (prfV l ⟨a, b⟩) := by
  unfold spec_ProofOf.f prfV
  simp only [Option.bind_some]
  refine Ev.bind (folS_val l hl a b) ?_
  cases h : folV l ⟨a, b⟩ with
  | false => exact Ev.congr (fun k => by rw [if_neg (by decide)]; rfl) (Ev.now _)
  | true =>
    obtain ⟨ha, hr, hs⟩ := folV_parts h
    obtain ⟨e1, e2, e3, e4⟩ := anyR_nat hr
    refine Ev.congr (fun k => by rw [if_pos rfl]) ?_
    rw [if_pos rfl]
    have := prfS_loop l hl ha a (toP ⟨a, b⟩).2 e4 256 (toP ⟨a, b⟩).1 [] e3 (by omega) (Nat.zero_le _) hs
    rw [← e1, ← e2, List.nil_append] at this
    exact this
theorem chk1_ex (b : List Int) (hb : b.length ≤ 1048576) (i h : Int) (h0 : 0 ≤ i) (q : List IR) (x y : Int) (st : List IS) (hst : st.length ≤ 256) : ∃ st', Ev (fun k => spec_DrawCheckProof.j1 k q st x y b i h) (q, x, y, st') ∧ st'.length ≤ 257 := by
  obtain ⟨o, i2, h2, e2, k2⟩ := once_ex b hb i h h0 10
  cases o with
  | true =>
    obtain ⟨u, i3, h3, e3, _, _, k3⟩ := below_ex b hb i2 h2 k2 6
    obtain ⟨v, i4, h4, e4, _, _, k4⟩ := below_ex b hb i3 h3 k3 32
    refine ⟨st ++ [⟨wrap64 (u - 1), v⟩], Ev.step (f := fun _ => some (q, x, y, st ++ [⟨wrap64 (u - 1), v⟩])) (fun k => ?_) (Ev.now _), by rw [List.length_append, List.length_singleton]; omega⟩
    simp only [spec_DrawCheckProof.j1]
    rw [e2, Option.bind_some]
    dsimp only
    rw [if_pos rfl, e3, Option.bind_some]
    dsimp only
    rw [e4, Option.bind_some, if_pos (small_len _ (by omega))]
  | false =>
    refine ⟨st, Ev.step (f := fun _ => some (q, x, y, st)) (fun k => ?_) (Ev.now _), by omega⟩
    simp only [spec_DrawCheckProof.j1]
    rw [e2, Option.bind_some]
    dsimp only
    rw [if_neg (by decide)]
theorem chk0_ex (b : List Int) (hb : b.length ≤ 1048576) (i h : Int) (h0 : 0 ≤ i) (q : List IR) (x y : Int) (st : List IS) (hst : st.length ≤ 256) (o : Bool) (ho : o = true → 0 < st.length) : ∃ st', Ev (fun k => spec_DrawCheckProof.j0 k q st o x y b i h) (q, x, y, st') ∧ st'.length ≤ 257 := by
  cases o with
  | true =>
    have hpos := ho rfl
    obtain ⟨u, i3, h3, e3, u0, u1, k3⟩ := below_ex b hb i h h0 (st.length : Int)
    have u1 := u1 (by omega)
    obtain ⟨v, i4, h4, e4, _, k4⟩ := pick_ex b hb i3 h3 k3 [1, 2, 16] (by decide)
    obtain ⟨st', hv, hl⟩ := chk1_ex b hb i4 h4 k4 q x y (st.set (u : Int).toNat (⟨(rd_T110 st u).f0, Go.bits .xor .i64 ((rd_T110 st u).f1) v⟩ : IS)) (by rw [List.length_set]; exact hst)
    refine ⟨st', Ev.step (fun k => ?_) hv, hl⟩
    simp only [spec_DrawCheckProof.j0]
    rw [if_pos trivial, e3, Option.bind_some]
    dsimp only
    rw [if_pos u0, if_pos u1, e4, Option.bind_some]
  | false =>
    obtain ⟨st', hv, hl⟩ := chk1_ex b hb i h h0 q x y st hst
    refine ⟨st', Ev.step (fun k => ?_) hv, hl⟩
    simp only [spec_DrawCheckProof.j0]
    rw [if_neg (by decide)]
theorem chk_ex (b : List Int) (hb : b.length ≤ 1048576) : ∃ v : List IR × Int × Int × List IS, Ev (fun k => spec_DrawCheckProof.f k b) v ∧ v.1.length ≤ 5 ∧ v.2.2.2.length ≤ 257 := by
  obtain ⟨⟨q, x, y⟩, e1, hq⟩ := follows_ex b hb
  dsimp only at hq
  obtain ⟨h1, e2⟩ := new_ex b hb
  have hpl := prfV_length q ⟨x, y⟩
  by_cases hpos : ((prfV q ⟨x, y⟩).1.length : Int) > 0
  · obtain ⟨o, i4, h4, e4, k4⟩ := once_ex b hb 0 h1 (by decide) 3
    obtain ⟨st', hv, hl⟩ := chk0_ex b hb i4 h4 k4 q x y (prfV q ⟨x, y⟩).1 hpl o (fun _ => by omega)
    refine ⟨(q, x, y, st'), ?_, hq, hl⟩
    unfold spec_DrawCheckProof.f
    refine Ev.bind e1 (Ev.bind e2 ?_)
    dsimp only
    refine Ev.bind (prfS_val q (by omega) x y) ?_
    refine Ev.congr (fun k => by rw [if_pos hpos, e4]; rfl) hv
  · obtain ⟨st', hv, hl⟩ := chk0_ex b hb 0 h1 (by decide) q x y (prfV q ⟨x, y⟩).1 hpl false (fun h => by cases h)
    refine ⟨(q, x, y, st'), ?_, hq, hl⟩
    unfold spec_DrawCheckProof.f
    refine Ev.bind e1 (Ev.bind e2 ?_)
    dsimp only
    refine Ev.bind (prfS_val q (by omega) x y) ?_
    exact Ev.congr (fun k => by rw [if_neg hpos]) hv
theorem equiv_ex (b : List Int) (hb : b.length ≤ 1048576) : ∃ v : List IR × List IR, Ev (fun k => spec_DrawAreEquivalent.f k b) v ∧ v.1.length ≤ 5 ∧ v.2.length ≤ 5 := by
  obtain ⟨h1, e1⟩ := new_ex b hb
  obtain ⟨⟨l, i2, h2⟩, e2, hl, k2⟩ := bent9_ex b hb 0 h1 (by decide) 4
  dsimp only at hl k2
  obtain ⟨o, i3, h3, e3, k3⟩ := once_ex b hb i2 h2 k2 2
  have go : ∀ w, Ev (fun k => if o = true then ((spec_MinimalRules.f k l).bind fun t982 => (some (l, t982))) else ((spec_l9Bent.f k b i3 h3 4).bind fun bt985 => (some (l, bt985.1)))) w → Ev (fun k => spec_DrawAreEquivalent.f k b) w := by
    intro w hw
    unfold spec_DrawAreEquivalent.f
    refine Ev.bind e1 (Ev.bind e2 ?_)
    dsimp only
    rw [e3]
    exact hw
  cases o with
  | true =>
    have := miniV_length l
    exact ⟨(l, miniV l), go _ (Ev.congr (fun k => by rw [if_pos rfl]) (Ev.bind (miniS_val l (by omega)) (Ev.now _))), hl, by dsimp only; omega⟩
  | false =>
    obtain ⟨⟨q, i4, h4⟩, e4, hq, _⟩ := bent9_ex b hb i3 h3 k3 4
    dsimp only at hq
    have e5 : Ev (fun k => (spec_l9Bent.f k b i3 h3 4).bind fun bt985 => (some (l, bt985.1))) (l, q) := Ev.bind e4 (Ev.now _)
    exact ⟨(l, q), go _ (Ev.congr (fun k => by rw [if_neg (by decide)]) e5), hl, hq⟩
theorem redun_ex (b : List Int) (hb : b.length ≤ 1048576) : ∃ v : List IR × Int, Ev (fun k => spec_DrawIsRedundant.f k b) v ∧ v.1.length ≤ 5 := by
  obtain ⟨h1, e1⟩ := new_ex b hb
  obtain ⟨⟨l, i2, h2⟩, e2, hl, k2⟩ := bent9_ex b hb 0 h1 (by decide) 4
  dsimp only at hl k2
  obtain ⟨x, i3, h3, e3, _, _, _⟩ := below_ex b hb i2 h2 k2 6
  refine ⟨(l, wrap64 (x - 1)), ?_, hl⟩
  unfold spec_DrawIsRedundant.f
  refine Ev.bind e1 (Ev.bind e2 ?_)
  dsimp only
  rw [e3]
  exact Ev.now _
theorem minim_ex (b : List Int) (hb : b.length ≤ 1048576) : ∃ l : List IR, Ev (fun k => spec_DrawMinimalRules.f k b) l ∧ l.length ≤ 5 := by
  obtain ⟨h1, e1⟩ := new_ex b hb
  obtain ⟨⟨l, i2, h2⟩, e2, hl, k2⟩ := bent9_ex b hb 0 h1 (by decide) 4
  refine ⟨l, ?_, hl⟩
  unfold spec_DrawMinimalRules.f
  exact Ev.bind e1 (Ev.bind e2 (Ev.now _))
theorem and_eq_sub' {a b : Nat} (ha : a < 256) (hb : b < 256) : (Go.bits .and .i64 (b : Int) (a : Int) = (a : Int)) ↔ sub a b = true := by
  rw [and_nat (by omega) (by omega), Nat.and_comm, ← and_nat (by omega) (by omega), and_eq_sub ha hb]
theorem l10_loop (l f : List IR) (hl : l.length ≤ 9223372036854775807) (hf : f.length ≤ 9223372036854775807) (ha : l.all anyR = true) (hb : f.all anyR = true) : ∀ (rest : List IR) (i : Nat), l.drop i = rest → Ev (fun k => spec_l10All.l0 k l f (i : Int)) (rest.all (folV f)) := by
  intro rest
  induction rest with
  | nil =>
    intro i h
    have := drop_nil h
    refine Ev.step (f := fun _ => some true) (fun k => ?_) (Ev.now _)
    simp only [spec_l10All.l0]
    rw [if_neg (by omega)]
  | cons x rest ih =>
    intro i h
    obtain ⟨hi, hx, hr⟩ := drop_cons (d := z48) h
    have hax := anyR_rest h ha
    obtain ⟨e1, e2, h1, h2⟩ := anyR_nat hax
    refine Ev.step (f := fun k => (spec_l9Closed.f k f ((toP x).1 : Int)).bind fun t => if (Go.bits .and .i64 t ((toP x).2 : Int)) = ((toP x).2 : Int) then spec_l10All.l0 k l f ((i + 1 : Nat) : Int) else some false) (fun k => ?_) ?_
    · simp only [spec_l10All.l0]
      rw [if_pos (by omega), if_pos (by omega), rdR, hx, e1, e2, wrap_succ hi hl]
    · refine Ev.bind (clS_val f hf hb _ h1) ?_
      have hlt := (clo_spec (toR_small hb) h1).1
      have hv : folV f x = sub (toP x).2 (clo (toR f) (toP x).1) := by unfold folV; rw [hb, hax]; simp
      rw [List.all_cons, hv]
      cases hs : sub (toP x).2 (clo (toR f) (toP x).1) with
      | true => exact Ev.congr (fun k => by rw [if_pos ((and_eq_sub' h2 hlt).2 hs)]) (ih (i + 1) hr)
      | false => exact Ev.congr (fun k => by rw [if_neg (by rw [and_eq_sub' h2 hlt, hs]; decide)]) (Ev.now false)
theorem l10_val (l f : List IR) (hl : l.length ≤ 9223372036854775807) (hf : f.length ≤ 9223372036854775807) (ha : l.all anyR = true) (hb : f.all anyR = true) : Ev (fun k => spec_l10All.f k l f) (l.all (folV f)) := l10_loop l f hl hf ha hb l 0 rfl
def chkFrom (l : List IR) (b : Nat) : List IS → Nat → Bool
  | [], s => sub b s
  | x :: xs, s => if 0 ≤ x.f0 ∧ x.f0 < l.length then (if sub (toP (l.getD x.f0.toNat z48)).1 s = true ∧ x.f1 = ((s ||| (toP (l.getD x.f0.toNat z48)).2 : Nat) : Int) then chkFrom l b xs (s ||| (toP (l.getD x.f0.toNat z48)).2) else false) else false
def chkV (l : List IR) (r : IR) (st : List IS) : Bool := l.all anyR && (anyR r && chkFrom l (toP r).2 st (toP r).1)
theorem getD_any {l : List IR} (ha : l.all anyR = true) {i : Nat} (hi : i < l.length) : anyR (l.getD i z48) = true := by
  rw [List.getD_eq_getElem?_getD, List.getElem?_eq_getElem hi]
  exact List.all_eq_true.1 ha _ (List.getElem_mem hi)
theorem chkS_loop (l : List IR) (hl : l.length ≤ 9223372036854775807) (ha : l.all anyR = true) (a b : Nat) (hb : b < 256) (st : List IS) (hst : st.length ≤ 9223372036854775807) : ∀ (rest : List IS) (i s : Nat), st.drop i = rest → s < 256 →
    Ev (fun k => spec_CheckProof.l0 k l st (s : Int) (i : Int) (a : Int) (b : Int)) (chkFrom l b rest s) := by
  intro rest
  induction rest with
  | nil =>
    intro i s h hs
    have := drop_nil h
    refine Ev.step (f := fun _ => some (sub b s)) (fun k => ?_) (Ev.now _)
    simp only [spec_CheckProof.l0]
    rw [if_neg (by omega)]
    refine congrArg some ?_
    rw [Bool.eq_iff_iff, beq_iff_eq, and_eq_sub' hb hs]
  | cons x rest ih =>
    intro i s h hs
    obtain ⟨hi, hx, hr⟩ := drop_cons (d := z110) h
    have hw : wrap64 ((l.length : Int) - 1) = (l.length : Int) - 1 := by unfold wrap64; omega
    rw [chkFrom]
    by_cases hn : 0 ≤ x.f0 ∧ x.f0 < l.length
    · rw [if_pos hn]
      obtain ⟨n, hn'⟩ : ∃ n : Nat, x.f0 = (n : Int) := ⟨x.f0.toNat, by omega⟩
      rw [hn', Int.toNat_natCast]
      obtain ⟨e1, e2, h1, h2⟩ := anyR_nat (getD_any ha (show n < l.length by omega))
      generalize hq : toP (l.getD n z48) = q at *
      by_cases hc : sub q.1 s = true ∧ x.f1 = ((s ||| q.2 : Nat) : Int)
      · rw [if_pos hc]
        refine Ev.step (f := fun k => spec_CheckProof.l0 k l st ((s ||| q.2 : Nat) : Int) ((i + 1 : Nat) : Int) (a : Int) (b : Int)) (fun k => ?_) (ih (i + 1) _ hr (or256 hs h2))
        simp only [spec_CheckProof.l0]
        rw [if_pos (by omega), if_pos (by omega), rdIS, hx, hn', l1In_val, Option.bind_some, if_pos (decide_eq_true (by omega)), if_pos (by omega), if_pos (by omega), rdR, e1, e2, if_pos ((and_eq_sub h1 hs).2 hc.1), or_nat (by omega) (by omega), if_pos hc.2, hc.2, wrap_succ hi hst]
      · rw [if_neg hc]
        refine Ev.step (f := fun _ => some false) (fun k => ?_) (Ev.now _)
        simp only [spec_CheckProof.l0]
        rw [if_pos (by omega), if_pos (by omega), rdIS, hx, hn', l1In_val, Option.bind_some, if_pos (decide_eq_true (by omega)), if_pos (by omega), if_pos (by omega), rdR, e1, e2, or_nat (by omega) (by omega)]
        by_cases hd : sub q.1 s = true
        · rw [if_pos ((and_eq_sub h1 hs).2 hd), if_neg (fun e => hc ⟨hd, e⟩)]
        · rw [if_neg (fun e => hd ((and_eq_sub h1 hs).1 e))]
    · rw [if_neg hn]
      refine Ev.step (f := fun _ => some false) (fun k => ?_) (Ev.now _)
      simp only [spec_CheckProof.l0]
      rw [if_pos (by omega), if_pos (by omega), rdIS, hx, l1In_val, Option.bind_some, hw, if_neg (by rw [decide_eq_true_iff]; omega)]
theorem chkI_loop (l : List IR) (hl : l.length ≤ 9223372036854775807) (ha : l.all anyR = true) (a b : Nat) (hb : b < 256) (st : List IS) (hst : st.length ≤ 9223372036854775807) : ∀ (rest : List IS) (i s : Nat), st.drop i = rest → s < 256 →
    Ev (fun k => impl_CheckProof.l0 k l (s : Int) st (st.length : Int) (i : Int) (a : Int) (b : Int)) (chkFrom l b rest s) := by
  intro rest
  induction rest with
  | nil =>
    intro i s h hs
    have := drop_nil h
    refine Ev.step (f := fun _ => some (sub b s)) (fun k => ?_) (Ev.now _)
    simp only [impl_CheckProof.l0]
    rw [if_neg (by omega), inSet_val hb hs, Option.bind_some]
  | cons x rest ih =>
    intro i s h hs
    obtain ⟨hi, hx, hr⟩ := drop_cons (d := z110) h
    have hw : wrap64 ((l.length : Int) - 1) = (l.length : Int) - 1 := by unfold wrap64; omega
    rw [chkFrom]
    by_cases hn : 0 ≤ x.f0 ∧ x.f0 < l.length
    · rw [if_pos hn]
      obtain ⟨n, hn'⟩ : ∃ n : Nat, x.f0 = (n : Int) := ⟨x.f0.toNat, by omega⟩
      rw [hn', Int.toNat_natCast]
      obtain ⟨e1, e2, h1, h2⟩ := anyR_nat (getD_any ha (show n < l.length by omega))
      generalize hq : toP (l.getD n z48) = q at *
      by_cases hc : sub q.1 s = true ∧ x.f1 = ((s ||| q.2 : Nat) : Int)
      · rw [if_pos hc]
        refine Ev.step (f := fun k => impl_CheckProof.l0 k l ((s ||| q.2 : Nat) : Int) st (st.length : Int) ((i + 1 : Nat) : Int) (a : Int) (b : Int)) (fun k => ?_) (ih (i + 1) _ hr (or256 hs h2))
        simp only [impl_CheckProof.l0]
        rw [if_pos (by omega), if_pos (by omega), if_pos (by omega), rdIS, hx, hn', within_val, Option.bind_some, if_pos (decide_eq_true (by omega)), if_pos (by omega), if_pos (by omega), rdR, e1, e2, inSet_val h1 hs, Option.bind_some, hc.1, if_pos rfl, or_nat (by omega) (by omega), if_pos hc.2, hc.2, wrap_succ hi hst]
      · rw [if_neg hc]
        refine Ev.step (f := fun _ => some false) (fun k => ?_) (Ev.now _)
        simp only [impl_CheckProof.l0]
        rw [if_pos (by omega), if_pos (by omega), if_pos (by omega), rdIS, hx, hn', within_val, Option.bind_some, if_pos (decide_eq_true (by omega)), if_pos (by omega), if_pos (by omega), rdR, e1, e2, inSet_val h1 hs, Option.bind_some, or_nat (by omega) (by omega)]
        cases hd : sub q.1 s with
        | true => rw [if_pos rfl, if_neg (fun e => hc ⟨hd, e⟩)]
        | false => rw [if_neg (by decide)]
    · rw [if_neg hn]
      refine Ev.step (f := fun _ => some false) (fun k => ?_) (Ev.now _)
      simp only [impl_CheckProof.l0]
      rw [if_pos (by omega), if_pos (by omega), if_pos (by omega), rdIS, hx, within_val, Option.bind_some, hw, if_neg (by rw [decide_eq_true_iff]; omega)]
theorem chkS_val (l : List IR) (hl : l.length ≤ 9223372036854775807) (a b : Int) (st : List IS) (hst : st.length ≤ 9223372036854775807) : Ev (fun k => spec_CheckProof.f k l a b st) (chkV l ⟨a, b⟩ st) := by
  unfold spec_CheckProof.f chkV
  rw [rule_val, isSetB_8, isSetB_8, show (isAny a && isAny b) = anyR ⟨a, b⟩ from rfl]
  refine Ev.bind (sets_val l hl) ?_
  cases ha : l.all anyR with
  | false => exact Ev.congr (fun k => by rw [if_neg (by decide)]) (Ev.step (g := fun k => spec_CheckProof.j0 k l st true a b) (f := fun _ => some false) (fun k => by simp only [spec_CheckProof.j0, if_true]) (Ev.now _))
  | true =>
    refine Ev.congr (fun k => by rw [if_pos rfl, Option.bind_some]) ?_
    cases hr : anyR ⟨a, b⟩ with
    | false => exact Ev.step (g := fun k => spec_CheckProof.j0 k l st true a b) (f := fun _ => some false) (fun k => by simp only [spec_CheckProof.j0, if_true]) (Ev.now _)
    | true =>
      obtain ⟨h1, h2, h3, h4⟩ := anyR_nat hr
      have e1 : a = ((toP ⟨a, b⟩).1 : Int) := h1
      have e2 : b = ((toP ⟨a, b⟩).2 : Int) := h2
      generalize (toP ⟨a, b⟩).1 = x at *
      generalize (toP ⟨a, b⟩).2 = y at *
      subst e1 e2
      refine Ev.step (g := fun k => spec_CheckProof.j0 k l st false (x : Int) (y : Int)) (f := fun k => spec_CheckProof.l0 k l st (x : Int) ((0 : Nat) : Int) (x : Int) (y : Int)) (fun k => by simp only [spec_CheckProof.j0]; rw [if_neg (by decide)]; rfl) ?_
      exact chkS_loop l hl ha x y h4 st hst st 0 x rfl h3
theorem chkI_val (l : List IR) (hl : l.length ≤ 9223372036854775807) (a b : Int) (st : List IS) (hst : st.length ≤ 9223372036854775807) : Ev (fun k => impl_CheckProof.f k l a b st) (chkV l ⟨a, b⟩ st) := by
  unfold impl_CheckProof.f impl_areAnyRules.f chkV
  simp only [Option.bind_some]
  rw [show ([(⟨a, b⟩ : IR)].all anyR) = anyR ⟨a, b⟩ from by simp]
  cases ha : l.all anyR with
  | false => exact Ev.congr (fun k => by rw [if_neg (by decide)]) (Ev.step (g := fun k => impl_CheckProof.j0 k l st true a b) (f := fun _ => some false) (fun k => by simp only [impl_CheckProof.j0, if_true]) (Ev.now _))
  | true =>
    refine Ev.congr (fun k => by rw [if_pos rfl]) ?_
    cases hr : anyR ⟨a, b⟩ with
    | false => exact Ev.step (g := fun k => impl_CheckProof.j0 k l st true a b) (f := fun _ => some false) (fun k => by simp only [impl_CheckProof.j0, if_true]) (Ev.now _)
    | true =>
      obtain ⟨h1, h2, h3, h4⟩ := anyR_nat hr
      have e1 : a = ((toP ⟨a, b⟩).1 : Int) := h1
      have e2 : b = ((toP ⟨a, b⟩).2 : Int) := h2
      generalize (toP ⟨a, b⟩).1 = x at *
      generalize (toP ⟨a, b⟩).2 = y at *
      subst e1 e2
      refine Ev.step (g := fun k => impl_CheckProof.j0 k l st false (x : Int) (y : Int)) (f := fun k => impl_CheckProof.l0 k l (x : Int) st (st.length : Int) ((0 : Nat) : Int) (x : Int) (y : Int)) (fun k => by simp only [impl_CheckProof.j0]; rw [if_neg (by decide)]; rfl) ?_
      exact chkI_loop l hl ha x y h4 st hst st 0 x rfl h3
set_option linter.unusedSimpArgs false
def lredStep (R : Rules) (b : Nat) (s e : Nat) : Nat := if s.testBit e = true ∧ sub b (clo R (diff s (2 ^ e))) = true then diff s (2 ^ e) else s
def lred (R : Rules) (b : Nat) : Nat → Nat → Nat → Nat
  | _, 0, s => s
  | i, d + 1, s => lred R b (i + 1) d (lredStep R b s i)
theorem diffL_lt {s e m : Nat} (h : s < 2 ^ m) : diff s e < 2 ^ m := Nat.lt_of_le_of_lt (diff_le s e) h
theorem lredStep_lt {R : Rules} {b s e m : Nat} (h : s < 2 ^ m) : lredStep R b s e < 2 ^ m := by
  unfold lredStep
  split
  · exact diffL_lt h
  · exact h
theorem lredStep_bit {R : Rules} {b s e j : Nat} (h : e ≠ j) : (lredStep R b s e).testBit j = s.testBit j := by
  unfold lredStep
  split
  · rw [testBit_diff, Nat.testBit_two_pow, decide_eq_false h]; simp
  · rfl
theorem lred_lt {R : Rules} {b m : Nat} : ∀ (d i s : Nat), s < 2 ^ m → lred R b i d s < 2 ^ m
  | 0, _, _, h => h
  | d + 1, i, s, h => by rw [lred]; exact lred_lt d (i + 1) _ (lredStep_lt h)
theorem lred_off {R : Rules} {b m : Nat} : ∀ (d i s : Nat), s < 2 ^ m → m ≤ i → lred R b i d s = s
  | 0, _, _, _, _ => rfl
  | d + 1, i, s, h, hi => by
    rw [lred]
    have : lredStep R b s i = s := by
      unfold lredStep
      rw [if_neg]
      rw [lt_two_pow_iff.1 h i hi]
      simp
    rw [this]
    exact lred_off d (i + 1) s h (by omega)
theorem lred_add {R : Rules} {b : Nat} : ∀ (d i s e : Nat), lred R b i (d + e) s = lred R b (i + d) e (lred R b i d s)
  | 0, i, s, e => by rw [Nat.zero_add, Nat.add_zero, lred]
  | d + 1, i, s, e => by rw [show d + 1 + e = (d + e) + 1 from by omega, lred, lred, lred_add d (i + 1), show i + (d + 1) = i + 1 + d from by omega]
def lredR (R : Rules) (r : IR) : IR := ⟨((lred R (toP r).2 0 8 (toP r).1 : Nat) : Int), r.f1⟩
theorem shl_small' (e : Nat) (he : e ≤ 8) : shl .i64 1 (e : Int) = ((2 ^ e : Nat) : Int) := by
  have h : e = 0 ∨ e = 1 ∨ e = 2 ∨ e = 3 ∨ e = 4 ∨ e = 5 ∨ e = 6 ∨ e = 7 ∨ e = 8 := by omega
  rcases h with rfl | rfl | rfl | rfl | rfl | rfl | rfl | rfl | rfl <;> decide +kernel
theorem pow7_256 {e : Nat} (he : e ≤ 7) : 2 ^ e < 256 := Nat.lt_of_lt_of_le (Nat.pow_lt_pow_right (by decide) (show e < 8 by omega)) (by decide)
theorem diff_pow_self {s e : Nat} : diff s (2 ^ e) = s ↔ s.testBit e = false := by
  constructor
  · intro h
    have := testBit_diff s (2 ^ e) e
    rw [h, Nat.testBit_two_pow] at this
    simpa using this
  · intro h
    apply Nat.eq_of_testBit_eq
    intro i
    rw [testBit_diff, Nat.testBit_two_pow]
    by_cases hi : e = i
    · subst hi; rw [h]; rfl
    · rw [decide_eq_false hi]; simp
theorem less_val {s e : Nat} (hs : s < 256) (he : e ≤ 7) : wrap64 ((s : Int) - (Go.bits .and .i64 (s : Int) (shl .i64 1 (IntKind.u64.wrap ((e : Nat) : Int))))) = ((diff s (2 ^ e) : Nat) : Int) := by
  have hp := pow7_256 he
  rw [wrapU_small _ (by omega) (by omega), shl_small' e (by omega), and_nat (by omega) (by omega), diff_eq_sub]
  have := Nat.and_le_left (n := s) (m := 2 ^ e)
  unfold wrap64
  omega
theorem lrS_inner (m : Nat) (hm : m ≤ 6) (l : List IR) (hl : l.length ≤ 9223372036854775807) (ha : l.all anyR = true) (out : List IR) (ho : out.length ≤ 1000) (i : Int) (b : Nat) (hb : b < 256) (res : List IR × Bool) : ∀ (d e s : Nat), e + d = m → s < 2 ^ m →
    Ev (fun k => spec_LeftReduced.l0 k (m : Int) l (out ++ [⟨((lred (toR l) b e d s : Nat) : Int), (b : Int)⟩]) (wrap64 (i + 1))) res → Ev (fun k => spec_LeftReduced.l1 k (m : Int) l out i (e : Int) (s : Int) (b : Int)) res := by
  have hm2 : 2 ^ m ≤ 2 ^ 6 := Nat.pow_le_pow_right (by decide) hm
  intro d
  induction d with
  | zero =>
    intro e s he hs h
    refine Ev.step (fun k => ?_) h
    simp only [spec_LeftReduced.l1]
    rw [if_neg (by omega), if_pos (by omega)]
    rfl
  | succ d ih =>
    intro e s he hs h
    rw [lred] at h
    have hw : wrap64 ((e : Int) + 1) = ((e + 1 : Nat) : Int) := by unfold wrap64; omega
    have hlv := less_val (s := s) (e := e) (by omega) (by omega)
    have hu : (0 : Int) ≤ IntKind.u64.wrap ((e : Nat) : Int) := by rw [wrapU_small _ (by omega) (by omega)]; omega
    have hdl : diff s (2 ^ e) < 256 := Nat.lt_of_le_of_lt (diff_le _ _) (by omega)
    cases hbit : s.testBit e with
    | false =>
      have hself := diff_pow_self.2 hbit
      have hst : lredStep (toR l) b s e = s := by unfold lredStep; rw [if_neg (by rw [hbit]; simp)]
      rw [hst] at h
      refine Ev.step (fun k => ?_) (ih (e + 1) s (by omega) hs h)
      simp only [spec_LeftReduced.l1]
      rw [if_pos (by omega), if_pos hu, hlv, if_pos (by rw [hself]), hw]
    | true =>
      have hself : diff s (2 ^ e) ≠ s := fun h' => by rw [diff_pow_self.1 h'] at hbit; cases hbit
      have hclt := (clo_spec (toR_small ha) hdl).1
      refine Ev.step (f := fun k => (spec_l9Closed.f k l ((diff s (2 ^ e) : Nat) : Int)).bind fun t => if (Go.bits .and .i64 t (b : Int)) = (b : Int) then spec_LeftReduced.l1 k (m : Int) l out i ((e + 1 : Nat) : Int) ((diff s (2 ^ e) : Nat) : Int) (b : Int) else spec_LeftReduced.l1 k (m : Int) l out i ((e + 1 : Nat) : Int) (s : Int) (b : Int)) (fun k => ?_) ?_
      · simp only [spec_LeftReduced.l1]
        rw [if_pos (by omega), if_pos hu, hlv, if_neg (by omega), hw]
      · refine Ev.bind (clS_val l hl ha _ hdl) ?_
        cases hc : sub b (clo (toR l) (diff s (2 ^ e))) with
        | true =>
          have hst : lredStep (toR l) b s e = diff s (2 ^ e) := by unfold lredStep; rw [if_pos ⟨hbit, hc⟩]
          rw [hst] at h
          exact Ev.congr (fun k => by rw [if_pos ((and_eq_sub' hb hclt).2 hc)]) (ih (e + 1) _ (by omega) (diffL_lt hs) h)
        | false =>
          have hst : lredStep (toR l) b s e = s := by unfold lredStep; rw [if_neg (by rw [hc]; simp)]
          rw [hst] at h
          exact Ev.congr (fun k => by rw [if_neg (by rw [and_eq_sub' hb hclt, hc]; decide)]) (ih (e + 1) s (by omega) hs h)
theorem lred_8 {R : Rules} {b m s : Nat} (hm : m ≤ 8) (hs : s < 2 ^ m) : lred R b 0 8 s = lred R b 0 m s := by
  obtain ⟨d, hd⟩ : ∃ d, m + d = 8 := ⟨8 - m, by omega⟩
  rw [show lred R b 0 8 s = lred R b 0 (m + d) s from by rw [hd], lred_add, Nat.zero_add, lred_off d m _ (lred_lt m 0 s hs) (Nat.le_refl _)]
theorem lrS_loop (m : Nat) (hm : m ≤ 6) (l : List IR) (hl : l.length ≤ 40) (ha : l.all anyR = true) (hr : ∀ r ∈ l, (toP r).1 < 2 ^ m ∧ (toP r).2 < 2 ^ m) : ∀ (rest : List IR) (i : Nat) (out : List IR), l.drop i = rest → out.length = i →
    Ev (fun k => spec_LeftReduced.l0 k (m : Int) l out (i : Int)) (out ++ rest.map (lredR (toR l)), true) := by
  intro rest
  induction rest with
  | nil =>
    intro i out h ho
    have := drop_nil h
    refine Ev.step (f := fun _ => some (out, true)) (fun k => ?_) ?_
    · simp only [spec_LeftReduced.l0]
      rw [if_neg (by omega)]
    · rw [List.map_nil, List.append_nil]; exact Ev.now _
  | cons x rest ih =>
    intro i out h ho
    obtain ⟨hi, hx, hd⟩ := drop_cons (d := z48) h
    obtain ⟨e1, e2, h1, h2⟩ := anyR_nat (anyR_rest h ha)
    have hlt := hr x (List.mem_of_mem_drop (i := i) (by rw [h]; exact List.mem_cons_self))
    refine Ev.step (f := fun k => spec_LeftReduced.l1 k (m : Int) l out (i : Int) ((0 : Nat) : Int) ((toP x).1 : Int) ((toP x).2 : Int)) (fun k => ?_) ?_
    · simp only [spec_LeftReduced.l0]
      rw [if_pos (by omega), if_pos (by omega), rdR, hx, e1, e2]
      rfl
    · refine lrS_inner m hm l (by omega) ha out (by omega) _ _ h2 _ m 0 _ (by omega) hlt.1 ?_
      rw [wrap_succ hi (by omega), ← lred_8 (by omega) hlt.1, ← e2]
      have := ih (i + 1) (out ++ [lredR (toR l) x]) hd (by simp [ho])
      rw [List.map_cons]
      simpa [lredR] using this
def lstep (R : Rules) (b : Nat) (s e : Nat) : Nat := if sub b (clo R (diff s (2 ^ e))) = true then diff s (2 ^ e) else s
theorem lred_list (R : Rules) (b s0 : Nat) : ∀ (d i s : Nat), (∀ j, i ≤ j → s.testBit j = s0.testBit j) → ((List.range' i d).filter fun (e : Nat) => s0.testBit e).foldl (lstep R b) s = lred R b i d s := by
  intro d
  induction d with
  | zero => intro i s _; rfl
  | succ d ih =>
    intro i s h
    rw [List.range'_succ, lred]
    cases hb : s0.testBit i with
    | true =>
      rw [List.filter_cons_of_pos hb, List.foldl_cons]
      have e : lstep R b s i = lredStep R b s i := by
        unfold lstep lredStep
        rw [h i (Nat.le_refl _), hb]
        simp
      rw [e]
      exact ih (i + 1) _ fun j hj => by rw [lredStep_bit (by omega)]; exact h j (by omega)
    | false =>
      rw [List.filter_cons_of_neg (by rw [hb]; decide)]
      have e : lredStep R b s i = s := by
        unfold lredStep
        rw [h i (Nat.le_refl _), hb]
        simp
      rw [e]
      exact ih (i + 1) s fun j hj => h j (by omega)
theorem lrI_inner (l : List IR) (hl : l.length ≤ 9223372036854775807) (ha : l.all anyR = true) (out rs : List IR) (n i : Int) (ho : out.length ≤ 1000) (b : Nat) (hb : b < 256) (es : List Int) (hes : es.length ≤ 8) (res : List IR × Bool) : ∀ (rest : List Nat) (j s : Nat), es.drop j = rest.map (fun (e : Nat) => (e : Int)) → (∀ e ∈ rest, e ≤ 7) → s < 256 →
    Ev (fun k => impl_LeftReduced.l0 k l (out ++ [⟨((rest.foldl (lstep (toR l) b) s : Nat) : Int), (b : Int)⟩]) rs n (wrap64 (i + 1))) res → Ev (fun k => impl_LeftReduced.l1 k l out rs n i es (es.length : Int) (j : Int) (s : Int) (b : Int)) res := by
  intro rest
  induction rest with
  | nil =>
    intro j s h _ hs he
    have := drop_nil (show es.drop j = [] from h)
    refine Ev.step (fun k => ?_) he
    simp only [impl_LeftReduced.l1]
    rw [if_neg (by omega), if_pos (by omega)]
    rfl
  | cons e rest ih =>
    intro j s h hr hs he
    obtain ⟨hj, hx, hd⟩ := drop_cons (d := 0) (show es.drop j = ((e : Nat) : Int) :: rest.map (fun (e : Nat) => (e : Int)) from h)
    have h7 := hr e List.mem_cons_self
    have hp := pow7_256 h7
    have hdl : diff s (2 ^ e) < 256 := Nat.lt_of_le_of_lt (diff_le _ _) hs
    rw [List.foldl_cons] at he
    have hv : folV l ⟨((diff s (2 ^ e) : Nat) : Int), (b : Int)⟩ = sub b (clo (toR l) (diff s (2 ^ e))) := by
      have hx : anyR (⟨((diff s (2 ^ e) : Nat) : Int), (b : Int)⟩ : IR) = true := by
        unfold anyR isAny
        dsimp only
        rw [decide_eq_true (by constructor <;> omega), decide_eq_true (by constructor <;> omega)]
        rfl
      unfold folV
      rw [ha, hx]
      unfold toP
      simp only [Int.toNat_natCast, Bool.true_and]
    refine Ev.step (f := fun k => (impl_Follows.f k l ((diff s (2 ^ e) : Nat) : Int) (b : Int)).bind fun t => if t = true then impl_LeftReduced.l1 k l out rs n i es (es.length : Int) ((j + 1 : Nat) : Int) ((diff s (2 ^ e) : Nat) : Int) (b : Int) else impl_LeftReduced.l1 k l out rs n i es (es.length : Int) ((j + 1 : Nat) : Int) (s : Int) (b : Int)) (fun k => ?_) ?_
    · simp only [impl_LeftReduced.l1]
      rw [if_pos (by omega), if_pos (by omega), if_pos (by omega), show rd es (j : Int) = ((e : Nat) : Int) from by unfold rd; rw [Int.toNat_natCast]; exact hx, if_pos (by omega), shl_small' e (by omega), andNot_nat (by omega) (by omega), wrap_succ hj (by omega)]
    · refine Ev.bind (folI_val l hl _ _) ?_
      rw [hv]
      cases hc : sub b (clo (toR l) (diff s (2 ^ e))) with
      | true =>
        rw [show lstep (toR l) b s e = diff s (2 ^ e) from by unfold lstep; rw [if_pos hc]] at he
        exact Ev.congr (fun k => by rw [if_pos rfl]) (ih (j + 1) _ hd (fun e' h' => hr e' (List.mem_cons_of_mem _ h')) hdl he)
      | false =>
        rw [show lstep (toR l) b s e = s from by unfold lstep; rw [if_neg (by rw [hc]; decide)]] at he
        exact Ev.congr (fun k => by rw [if_neg (by decide)]) (ih (j + 1) s hd (fun e' h' => hr e' (List.mem_cons_of_mem _ h')) hs he)
theorem lrI_loop (l : List IR) (hl : l.length ≤ 40) (ha : l.all anyR = true) : ∀ (rest : List IR) (i : Nat) (out : List IR), l.drop i = rest → out.length = i →
    Ev (fun k => impl_LeftReduced.l0 k l out l (l.length : Int) (i : Int)) (out ++ rest.map (lredR (toR l)), true) := by
  intro rest
  induction rest with
  | nil =>
    intro i out h ho
    have := drop_nil h
    refine Ev.step (f := fun _ => some (out, true)) (fun k => ?_) ?_
    · simp only [impl_LeftReduced.l0]
      rw [if_neg (by omega)]
    · rw [List.map_nil, List.append_nil]; exact Ev.now _
  | cons x rest ih =>
    intro i out h ho
    obtain ⟨hi, hx, hd⟩ := drop_cons (d := z48) h
    have hax := anyR_rest h ha
    obtain ⟨e1, e2, h1, h2⟩ := anyR_nat hax
    refine Ev.step (f := fun k => (impl_ElementsOf.f k ((toP x).1 : Int)).bind fun t => impl_LeftReduced.l1 k l out l (l.length : Int) (i : Int) t (t.length : Int) ((0 : Nat) : Int) ((toP x).1 : Int) ((toP x).2 : Int)) (fun k => ?_) ?_
    · simp only [impl_LeftReduced.l0]
      rw [if_pos (by omega), if_pos (by omega), if_pos (by omega), rdR, hx, e1, e2]
      rfl
    · refine Ev.bind (elemsI_val _) ?_
      have hev : (elemsV ((toP x).1 : Int)).drop 0 = ((List.range' 0 8).filter fun (e : Nat) => (toP x).1.testBit e).map fun (e : Nat) => (e : Int) := by
        rw [List.drop_zero]
        unfold elemsV elemsI isAny
        rw [decide_eq_true (by constructor <;> omega), if_pos rfl, Int.toNat_natCast, List.range_eq_range']
      refine lrI_inner l (by omega) ha out l _ _ (by omega) _ h2 (elemsV ((toP x).1 : Int)) (elemsV_length _) _ ((List.range' 0 8).filter fun (e : Nat) => (toP x).1.testBit e) 0 _ hev ?_ h1 ?_
      · intro e he
        have := (List.mem_filter.1 he).1
        have := List.mem_range'_1.1 this
        omega
      · rw [lred_list (toR l) _ (toP x).1 8 0 _ (fun _ _ => rfl), wrap_succ hi (by omega), ← e2]
        have := ih (i + 1) (out ++ [lredR (toR l) x]) hd (by simp [ho])
        rw [List.map_cons]
        simpa [lredR] using this
def lrV (n : Int) (l : List IR) : List IR × Bool := if areV n l = true then (l.map (lredR (toR l)), true) else ([], false)
theorem lrS_val (n : Int) (l : List IR) (hl : l.length ≤ 9223372036854775807) : Ev (fun k => spec_LeftReduced.f k n l) (lrV n l) := by
  unfold spec_LeftReduced.f lrV
  simp only [Option.bind_some]
  refine Ev.bind (areS_val n l hl) ?_
  cases h : areV n l with
  | false => exact Ev.congr (fun k => by rw [if_neg (by decide), if_neg (by decide)]) (Ev.now _)
  | true =>
    obtain ⟨m, rfl, hm, h40, ha, hr⟩ := areV_nat h
    refine Ev.congr (fun k => by rw [if_pos rfl]) ?_
    exact lrS_loop m hm l h40 ha hr l 0 [] rfl rfl
theorem lrI_val (n : Int) (l : List IR) (_hl : l.length ≤ 9223372036854775807) : Ev (fun k => impl_LeftReduced.f k n l) (lrV n l) := by
  unfold impl_LeftReduced.f lrV
  rw [areI_val]
  simp only [Option.bind_some]
  cases h : areV n l with
  | false => exact Ev.congr (fun k => by rw [if_neg (by decide), if_neg (by decide)]) (Ev.now _)
  | true =>
    obtain ⟨m, rfl, hm, h40, ha, hr⟩ := areV_nat h
    refine Ev.congr (fun k => by rw [if_pos rfl]) ?_
    exact lrI_loop l h40 ha l 0 [] rfl rfl
theorem lrV_length (n : Int) (l : List IR) : (lrV n l).1.length ≤ l.length := by
  unfold lrV
  split
  · simp
  · simp
def equivV (a b : List IR) : Bool := a.all anyR && (b.all anyR && (b.all (folV a) && a.all (folV b)))
theorem equivS_val (a b : List IR) (ha : a.length ≤ 9223372036854775807) (hb : b.length ≤ 9223372036854775807) : Ev (fun k => spec_AreEquivalent.f k a b) (equivV a b) := by
  unfold spec_AreEquivalent.f equivV
  refine Ev.bind (sets_val a ha) ?_
  cases h1 : a.all anyR with
  | false => exact Ev.congr (fun k => by rw [if_neg (by decide)]; rfl) (Ev.now _)
  | true =>
    refine Ev.congr (fun k => by rw [if_pos rfl]) ?_
    refine Ev.bind (sets_val b hb) ?_
    cases h2 : b.all anyR with
    | false => exact Ev.congr (fun k => by rw [if_neg (by decide)]; rfl) (Ev.now _)
    | true =>
      refine Ev.congr (fun k => by rw [if_pos rfl]) ?_
      refine Ev.bind (l10_val a b ha hb h1 h2) ?_
      cases h3 : a.all (folV b) with
      | false => exact Ev.congr (fun k => by rw [if_neg (by decide)]) (by rw [Bool.and_false]; exact Ev.now _)
      | true =>
        refine Ev.congr (fun k => by rw [if_pos rfl]) ?_
        refine Ev.bind (l10_val b a hb ha h2 h1) ?_
        simp only [Bool.true_and, Bool.and_true]
        exact Ev.now _
theorem equivI_val (a b : List IR) : impl_AreEquivalent.f a b = some (equivV a b) := by
  unfold impl_AreEquivalent.f impl_areAnyRules.f impl_allFollow.f equivV
  simp only [Option.bind_some]
  cases a.all anyR <;> cases b.all anyR <;> cases b.all (folV a) <;> cases a.all (folV b) <;> rfl
end Go.Proofs.YtafnamchckehmaaGreatDoor.Pu
namespace Go.Proofs.YtafnamchckehmaaGreatDoor.Pu
theorem clos_clo {m : Nat} (hm : m ≤ 8) {R : Rules} (h : within m R) : Clos m (clo R) where
  lt := fun _ hs => clo_in hm h hs
  ext := fun _ hs => (clo_spec (within_small hm h) (by have := pow_le_256 hm; omega)).2.1
  mono := fun _ _ hs ht k => clo_mono (within_small hm h) (by have := pow_le_256 hm; omega) (by have := pow_le_256 hm; omega) k
  idem := fun _ hs => clo_idem (within_small hm h) (by have := pow_le_256 hm; omega)
def stN (m : Nat) (c : Nat → Nat) : Rules := (psN m c).map fun s => (s, c s)
theorem mem_stN {m : Nat} (hm : m ≤ 8) {c : Nat → Nat} {r : Nat × Nat} : r ∈ stN m c ↔ r ∈ stemR c m := by
  rw [mem_stemR]
  unfold stN
  rw [List.mem_map]
  constructor
  · rintro ⟨p, hp, rfl⟩
    obtain ⟨h1, h2⟩ := (mem_keptN hm).1 hp
    exact ⟨h1, h2, rfl⟩
  · rintro ⟨h1, h2, h3⟩
    exact ⟨r.1, (mem_keptN hm).2 ⟨h1, h2⟩, by rw [← h3]⟩
theorem psN_pl {m : Nat} (hm : m ≤ 8) (c : Nat → Nat) : (psN m c).length = (pl c (2 ^ m)).length := by
  rw [← lec_pl, lecR_length (fun x hx => by have := (mem_pl.1 hx).1; have := pow_le_256 hm; omega) (pl_nodup c _)]
theorem small_stN {m : Nat} {c : Nat → Nat} (C : Clos m c) (hm : m ≤ 8) : small (stN m c) := fun r hr => small_stem C hm r ((mem_stN hm).1 hr)
theorem within_stN {m : Nat} {c : Nat → Nat} (C : Clos m c) (hm : m ≤ 8) : within m (stN m c) := fun r hr => by
  obtain ⟨h1, _, h3⟩ := mem_stemR.1 ((mem_stN hm).1 hr)
  exact ⟨h1, by rw [h3]; exact C.lt _ h1⟩
theorem clo_stN {m : Nat} {c : Nat → Nat} (C : Clos m c) (hm : m ≤ 8) {s : Nat} (hs : s < 2 ^ m) : clo (stN m c) s = c s := by
  have := pow_le_256 hm
  rw [clo_congr (small_stN C hm) (fun r => mem_stN hm) (by omega), clo_stem C hm hs]
theorem base_least {m : Nat} {c : Nat → Nat} (C : Clos m c) (hm : m ≤ 8) {L : Rules} (hL : within m L) (h : ∀ s, s < 2 ^ m → clo L s = c s) : (psN m c).length ≤ L.length := by
  rw [psN_pl hm]
  exact stem_least C hm (within_small hm hL) h
open Go.RowKit Go.Proofs.YtafnamchckehmaaGreatDoorW.PrintWords Go.Proofs.YtafnamchckehmaaGreatDoorW.PrintLast Go.Proofs.YtafnamchckehmaaGreatDoorW.PrintMore Go.Proofs.YtafnamchckehmaaGreatDoor.Pr
theorem any_map {P : List Nat} {f : Nat → Nat} {fv : Int → Int} (hf : ∀ s ∈ P, fv (s : Int) = ((f s : Nat) : Int)) (h : ∀ s ∈ P, s < 256 ∧ f s < 256) : (ruleMap fv (cast P)).all anyR = true := by
  refine List.all_eq_true.2 fun r hr => ?_
  unfold ruleMap at hr
  obtain ⟨x, hx, rfl⟩ := List.mem_map.1 hr
  obtain ⟨s, hs, rfl⟩ := List.mem_map.1 (show x ∈ P.map fun (x : Nat) => (x : Int) from hx)
  have := h s hs
  unfold anyR isAny
  dsimp only
  rw [hf s hs, Bool.and_eq_true, decide_eq_true_iff, decide_eq_true_iff]
  omega
theorem toR_map {P : List Nat} {f : Nat → Nat} {fv : Int → Int} (hf : ∀ s ∈ P, fv (s : Int) = ((f s : Nat) : Int)) : toR (ruleMap fv (cast P)) = P.map fun s => (s, f s) := by
  have e : cast P = P.map fun (x : Nat) => (x : Int) := rfl
  unfold toR ruleMap
  rw [e, List.map_map, List.map_map]
  refine List.map_congr_left fun s hs => ?_
  show toP ⟨(s : Int), fv (s : Int)⟩ = (s, f s)
  rw [hf s hs]
  rfl
end Go.Proofs.YtafnamchckehmaaGreatDoor.Pu
