/- Intents, extents, closures; what HoldsIn answers. No condition beyond the length's bound. -/
import Derived.Test.YtemhlblajnlogaaPr21
import Derived.Test.YtemhlblajnlogaaPr22
import Derived.Test.YtemhlblajnlogaaPr23
import Derived.Test.YtemhlblajnlogaaPr7
import Derived.Test.YtemhlblajnlogaaPr8
import Derived.Test.YtemhlblajnlogaaPuCAttr
namespace Go.Proofs.Ytemhlblajnlogaa.Pu
open Go.RowKit Go.Proofs.YtemhlblajnlogaaW.PrintWords Go.Proofs.YtemhlblajnlogaaW.PrintLast Go.Proofs.YtemhlblajnlogaaW.PrintMore Go.Proofs.Ytemhlblajnlogaa.Pr

def comStep (L : List Nat) (c i f : Nat) : Nat := if c.testBit i = true then f &&& row L i else f
/-- the common part of f and of those of L whose places are in c -/
def com (L : List Nat) (c f : Nat) : Nat := foldIdx (comStep L c) 0 L.length f
theorem comStep_le (L : List Nat) (c i f : Nat) : comStep L c i f ≤ f := by
  unfold comStep
  split
  · exact Nat.and_le_left
  · exact Nat.le_refl _
theorem com_le (L : List Nat) (c f : Nat) : com L c f ≤ f := fold_inv (comStep L c) (fun _ a => a ≤ f) (fun i a _ h => Nat.le_trans (comStep_le L c i a) h) L.length 0 f (by omega) (Nat.le_refl _)
theorem testBit_fold_com (L : List Nat) (c j : Nat) : ∀ (d i f : Nat), i + d = L.length → ((foldIdx (comStep L c) i L.length f).testBit j = true ↔ f.testBit j = true ∧ ∀ g, i ≤ g → g < L.length → c.testBit g = true → (row L g).testBit j = true) := by
  intro d
  induction d with
  | zero =>
    intro i f h
    rw [foldIdx_end _ (by omega)]
    exact ⟨fun h => ⟨h, fun g h1 h2 => by omega⟩, fun h => h.1⟩
  | succ d ih =>
    intro i f h
    have hi : i < L.length := by omega
    rw [foldIdx_step _ hi f, ih (i + 1) _ (by omega)]
    unfold comStep
    by_cases hc : c.testBit i = true
    · rw [if_pos hc, Nat.testBit_and, Bool.and_eq_true]
      constructor
      · rintro ⟨⟨h1, h2⟩, h3⟩
        refine ⟨h1, fun g hg hg' hcg => ?_⟩
        by_cases e : g = i
        · subst e; exact h2
        · exact h3 g (by omega) hg' hcg
      · rintro ⟨h1, h2⟩
        exact ⟨⟨h1, h2 i (Nat.le_refl _) hi hc⟩, fun g hg hg' hcg => h2 g (by omega) hg' hcg⟩
    · rw [if_neg hc]
      constructor
      · rintro ⟨h1, h3⟩
        refine ⟨h1, fun g hg hg' hcg => ?_⟩
        by_cases e : g = i
        · subst e; exact absurd hcg hc
        · exact h3 g (by omega) hg' hcg
      · rintro ⟨h1, h2⟩
        exact ⟨h1, fun g hg hg' hcg => h2 g (by omega) hg' hcg⟩
theorem testBit_com (L : List Nat) (c f j : Nat) : (com L c f).testBit j = true ↔ f.testBit j = true ∧ ∀ g, g < L.length → c.testBit g = true → (row L g).testBit j = true := by
  unfold com
  rw [testBit_fold_com L c j L.length 0 f (by omega)]
  exact ⟨fun h => ⟨h.1, fun g h1 => h.2 g (Nat.zero_le _) h1⟩, fun h => ⟨h.1, fun g _ h1 => h.2 g h1⟩⟩
theorem testBit_col (R : List Nat) (m g : Nat) : (col R m).testBit g = (decide (g < R.length) && (row R g).testBit m) := testBit_ofBits ..
theorem ext_com {m : Nat} {R : List Nat} {a : Nat} (ha : a < 2 ^ m) : com (cols m R) a (full R.length) = ext R a := by
  apply Nat.eq_of_testBit_eq
  intro g
  rw [Bool.eq_iff_iff, testBit_com, testBit_ext, testBit_full, Bool.and_eq_true, decide_eq_true_iff, sub_iff, cols_length]
  refine and_congr_right fun hg => ⟨fun h i hi => ?_, fun h i hi hai => ?_⟩
  · have him : i < m := by
      rcases Nat.lt_or_ge i m with h' | h'
      · exact h'
      · rw [lt_two_pow_iff.1 ha i h'] at hi; cases hi
    have := h i him hi
    rw [row_cols R him, testBit_col, Bool.and_eq_true] at this
    exact this.2
  · rw [row_cols R hi, testBit_col, h i hai, decide_eq_true hg]
    rfl
theorem int_com (m : Nat) (R : List Nat) (o : Nat) : com R o (full m) = int m R o := by
  apply Nat.eq_of_testBit_eq
  intro i
  rw [Bool.eq_iff_iff, testBit_com, testBit_int, testBit_full, decide_eq_true_iff]
theorem ext_lt (R : List Nat) (a : Nat) : ext R a < 2 ^ R.length := ofBits_lt _ _
theorem int_lt (m : Nat) (R : List Nat) (o : Nat) : int m R o < 2 ^ m := ofBits_lt _ _
theorem comI_val (L : List Nat) (hl : L.length ≤ 8) (hL : ∀ i, row L i < 256) (c f : Nat) (hc : c < 256) (hf : f < 256) : Ev (fun k => impl_common.f k (cast L) (c : Int) (f : Int)) ((com L c f : Nat) : Int) := by
  unfold impl_common.f
  refine ev_fold (g := fun k (a : Nat) i => impl_common.l0 k (c : Int) (a : Int) (cast L) ((cast L).length : Int) i) (comStep L c) (fun _ a => a < 256) (N := L.length) ?_ (fun i a _ h => Nat.lt_of_le_of_lt (comStep_le L c i a) h) L.length 0 f (by omega) hf ?_
  · intro i a hi ha h
    refine Ev.step (fun k => ?_) h
    simp only [impl_common.l0]
    rw [if_pos (by rw [cast_length]; omega), if_pos (by omega), if_pos (by rw [cast_length]; omega), rd_row, wrap_succ hi (by omega), hasI_val, Option.bind_some]
    have hv : hasV (c : Int) (i : Int) = c.testBit i := by
      unfold hasV isAny
      rw [decide_eq_true (by omega), decide_eq_true (by omega)]
      simp
    rw [hv]
    unfold comStep
    by_cases h1 : c.testBit i = true
    · rw [if_pos h1, if_pos h1, and_nat (by omega) (by have := hL i; omega)]
    · rw [if_neg h1, if_neg h1]
  · intro b hb _
    refine Ev.step (f := fun _ => some (b : Int)) (fun k => ?_) ?_
    · simp only [impl_common.l0]
      rw [if_neg (by rw [cast_length]; omega)]
    · rw [hb]; exact Ev.now _
theorem intS_val (m : Nat) (hm : m ≤ 8) (R : List Nat) (hR : R.length ≤ 8) (hrow : ∀ i, row R i < 256) (o : Nat) (ho : o < 256) : Ev (fun k => spec_l4Intent.f k (m : Int) (cast R) (o : Int)) ((int m R o : Nat) : Int) := by
  unfold spec_l4Intent.f
  refine Ev.congr (fun k => by rw [fullS_val, Option.bind_some, fullN hm]) ?_
  refine ev_fold (g := fun k (a : Nat) i => spec_l4Intent.l0 k (o : Int) (a : Int) i (m : Int) (cast R)) (comStep R o) (fun _ a => a < 256) (N := R.length) ?_ (fun i a _ h => Nat.lt_of_le_of_lt (comStep_le R o i a) h) R.length 0 (full m) (by omega) (full_256 hm) ?_
  · intro i a hi ha h
    refine Ev.step (fun k => ?_) h
    simp only [spec_l4Intent.l0]
    rw [if_pos (by rw [cast_length]; omega), l2Has_val _ _ (by omega) (by omega), Option.bind_some, rd_row, wrap_succ hi (by omega)]
    unfold comStep
    by_cases h1 : o.testBit i = true
    · rw [if_pos h1, if_pos (by omega), if_pos h1, and_nat (by omega) (by have := hrow i; omega)]
    · rw [if_neg h1, if_neg h1]
  · intro b hb _
    refine Ev.step (f := fun _ => some (b : Int)) (fun k => ?_) ?_
    · simp only [spec_l4Intent.l0]
      rw [if_neg (by rw [cast_length]; omega)]
    · rw [hb, show foldIdx (comStep R o) 0 R.length (full m) = int m R o from int_com m R o]; exact Ev.now _
theorem extS_val (n : Int) (R : List Nat) (hR : R.length ≤ 8) (hrow : ∀ i, row R i < 256) (a : Nat) (ha : a < 256) : Ev (fun k => spec_l4Extent.f k n (cast R) (a : Int)) ((ext R a : Nat) : Int) := by
  unfold spec_l4Extent.f
  refine ev_fold (g := fun k (b : Nat) i => spec_l4Extent.l0 k (a : Int) (b : Int) i n (cast R)) (bitStep fun g => sub a (row R g)) (fun _ b => b < 2 ^ R.length) (N := R.length) ?_ (fun i b hi h => bitStep_lt hi h) R.length 0 0 (by omega) (Nat.two_pow_pos _) ?_
  · intro i b hi hb h
    have hb' := lt_256 hR hb
    refine Ev.step (fun k => ?_) h
    simp only [spec_l4Extent.l0]
    rw [if_pos (by rw [cast_length]; omega), if_pos (by omega), rd_row, wrap_succ hi (by omega), wrapU_small _ (by omega) (by omega)]
    unfold bitStep
    dsimp only
    by_cases h1 : sub a (row R i) = true
    · rw [if_pos ((and_is ha (hrow i)).2 h1), if_pos (by omega), if_pos h1, or_bit hb' (by omega)]
    · rw [if_neg (fun h => h1 ((and_is ha (hrow i)).1 h)), if_neg h1]
  · intro b hb _
    refine Ev.step (f := fun _ => some (b : Int)) (fun k => ?_) ?_
    · simp only [spec_l4Extent.l0]
      rw [if_neg (by rw [cast_length]; omega)]
    · rw [hb, fold_bits]; exact Ev.now _
theorem clS4_val (m : Nat) (hm : m ≤ 8) (R : List Nat) (hR : R.length ≤ 8) (hrow : ∀ i, row R i < 256) (a : Nat) (ha : a < 256) : Ev (fun k => spec_l4Closure.f k (m : Int) (cast R) (a : Int)) ((cl m R a : Nat) : Int) := by
  unfold spec_l4Closure.f
  refine Ev.bind (extS_val _ R hR hrow a ha) ?_
  exact Ev.bind (intS_val m hm R hR hrow _ (lt_256 hR (ext_lt R a))) (Ev.now _)
def atsB (n : Int) (l : List Int) (a : Int) : Bool := ctxB n l && isSetB n a
theorem atsI_val (n : Int) (l : List Int) (a : Int) : impl_areAttributes.f n l a = some (atsB n l a) := by
  unfold impl_areAttributes.f atsB
  rw [ctxI_val, Option.bind_some]
  cases ctxB n l with
  | false => rfl
  | true => rw [if_pos rfl, set_val, Option.bind_some, Bool.true_and]
def obsB (n : Int) (l : List Int) (o : Int) : Bool := ctxB n l && isSetB (l.length : Int) o
theorem obsI_val (n : Int) (l : List Int) (o : Int) : impl_areObjects.f n l o = some (obsB n l o) := by
  unfold impl_areObjects.f obsB
  rw [ctxI_val, Option.bind_some]
  cases ctxB n l with
  | false => rfl
  | true => rw [if_pos rfl, set_val, Option.bind_some, Bool.true_and]
theorem ats_nat {n : Int} {l : List Int} {a : Int} (h : atsB n l a = true) : ctxB n l = true ∧ ∃ (m : Nat) (R : List Nat) (a' : Nat), n = (m : Int) ∧ m ≤ 6 ∧ l = cast R ∧ R.length ≤ 8 ∧ (∀ r ∈ R, r < 2 ^ m) ∧ a = (a' : Int) ∧ a' < 2 ^ m := by
  unfold atsB at h
  rw [Bool.and_eq_true] at h
  obtain ⟨hc, hs⟩ := h
  obtain ⟨m, R, rfl, hm, rfl, hR, hb⟩ := ctxB_nat hc
  obtain ⟨m', a', _, e, ha, rfl⟩ := isSetB_nat hs
  obtain rfl : m = m' := by omega
  exact ⟨hc, m, R, a', rfl, hm, rfl, hR, hb, rfl, ha⟩
theorem clI4_val {m : Nat} (hm : m ≤ 6) {R : List Nat} (hR : R.length ≤ 8) (hb : ∀ r ∈ R, r < 2 ^ m) {a : Nat} (ha : a < 2 ^ m) (hc : ctxB (m : Int) (cast R) = true) : Ev (fun k => impl_ClosureOf.f k (m : Int) (cast R) (a : Int)) ((cl m R a : Nat) : Int) := by
  have hat : atsB (m : Int) (cast R) (a : Int) = true := by unfold atsB; rw [hc, isSetB_mk (by omega) ha]; rfl
  have hob : obsB (m : Int) (cast R) ((ext R a : Nat) : Int) = true := by unfold obsB; rw [hc, cast_length, isSetB_mk hR (ext_lt R a)]; rfl
  have hrow := fun i => lt_256 (show m ≤ 8 by omega) (row_lt hb i)
  unfold impl_ClosureOf.f impl_ExtentOf.f impl_IntentOf.f
  rw [atsI_val, hat]
  simp only [Option.bind_some]
  refine Ev.congr (fun k => by rw [if_true, if_true]) ?_
  have h1 : Ev (fun k => (impl_columns.f k (m : Int) (cast R)).bind fun t371 => (impl_FullSet.f ((cast R).length : Int)).bind fun t374 => (impl_common.f k t371 (a : Int) t374).bind fun t375 => some t375) ((ext R a : Nat) : Int) := by
    refine Ev.bind (colsI_val hc rfl rfl hm hR hb) ?_
    refine Ev.congr (fun k => by rw [fullI_val, Option.bind_some, cast_length, fullN hR]) ?_
    refine Ev.bind (comI_val (cols m R) (by rw [cols_length]; omega) (fun i => lt_256 hR (row_lt cols_lt i)) a _ (lt_256 (show m ≤ 8 by omega) ha) (full_256 hR)) ?_
    rw [ext_com ha]
    exact Ev.now _
  refine Ev.bind h1 ?_
  refine Ev.congr (fun k => by rw [obsI_val, hob, Option.bind_some, if_pos rfl, fullI_val, Option.bind_some, fullN (by omega)]) ?_
  have h2 : Ev (fun k => (impl_common.f k (cast R) ((ext R a : Nat) : Int) ((full m : Nat) : Int)).bind fun t368 => some t368) ((cl m R a : Nat) : Int) := by
    refine Ev.bind (comI_val R hR hrow _ _ (lt_256 hR (ext_lt R a)) (full_256 (by omega))) ?_
    rw [int_com]
    exact Ev.now _
  exact Ev.bind h2 (Ev.now _)
def holdV (n : Int) (l : List Int) (a b : Int) : Bool := atsB n l a && atsB n l b && sub b.toNat (cl n.toNat (l.map Int.toNat) a.toNat)
theorem cl_256 {m : Nat} (hm : m ≤ 8) (R : List Nat) (a : Nat) : cl m R a < 256 := lt_256 hm (cl_lt m R a)
theorem holdI_val (n : Int) (l : List Int) (_hl : l.length ≤ 1048576) (a b : Int) : Ev (fun k => impl_HoldsIn.f k n l a b) (holdV n l a b) := by
  unfold impl_HoldsIn.f holdV
  rw [atsI_val]
  simp only [Option.bind_some]
  cases h : atsB n l a with
  | false => exact Ev.congr (fun k => by rw [if_neg (by decide), Bool.false_and, Bool.false_and]) (Ev.now _)
  | true =>
    refine Ev.congr (fun k => by rw [if_pos rfl, atsI_val, Option.bind_some]) ?_
    cases h' : atsB n l b with
    | false => exact Ev.congr (fun k => by rw [if_neg (by decide), Bool.true_and, Bool.false_and]) (Ev.now _)
    | true =>
      obtain ⟨hc, m, R, a', rfl, hm, rfl, hR, hb, rfl, ha⟩ := ats_nat h
      obtain ⟨_, m', _, b', e, _, _, _, _, rfl, hb'⟩ := ats_nat h'
      obtain rfl : m = m' := by omega
      rw [uncast, Int.toNat_natCast, Int.toNat_natCast, Int.toNat_natCast]
      refine Ev.congr (fun k => by rw [if_pos rfl]) ?_
      refine Ev.bind (clI4_val hm hR hb ha hc) ?_
      exact Ev.congr (fun k => by rw [inS_val (lt_256 (by omega) hb') (cl_256 (by omega) R a'), Option.bind_some]; rfl) (Ev.now _)
theorem holdS_val (n : Int) (l : List Int) (hl : l.length ≤ 1048576) (a b : Int) : Ev (fun k => spec_HoldsIn.f k n l a b) (holdV n l a b) := by
  unfold spec_HoldsIn.f holdV
  refine Ev.bind (ctxS_val n l (by omega)) ?_
  cases hc : ctxB n l with
  | false =>
    rw [show atsB n l a = false from by unfold atsB; rw [hc]; rfl]
    exact Ev.congr (fun k => by rw [if_neg (by decide), Bool.false_and, Bool.false_and]) (Ev.now _)
  | true =>
    refine Ev.congr (fun k => by rw [if_pos rfl, rule_val, Option.bind_some, show (isSetB n a && isSetB n b) = (atsB n l a && atsB n l b) from by unfold atsB; rw [hc, Bool.true_and, Bool.true_and]]) ?_
    cases h : atsB n l a && atsB n l b with
    | false => exact Ev.congr (fun k => by rw [if_neg (by decide), Bool.false_and]) (Ev.now _)
    | true =>
      rw [Bool.and_eq_true] at h
      obtain ⟨h, h'⟩ := h
      obtain ⟨_, m, R, a', rfl, hm, rfl, hR, hb, rfl, ha⟩ := ats_nat h
      obtain ⟨_, m', _, b', e, _, _, _, _, rfl, hb'⟩ := ats_nat h'
      obtain rfl : m = m' := by omega
      rw [uncast, Int.toNat_natCast, Int.toNat_natCast, Int.toNat_natCast, Bool.true_and]
      have hrow := fun i => lt_256 (show m ≤ 8 by omega) (row_lt hb i)
      refine Ev.congr (fun k => by rw [if_pos rfl]) ?_
      refine Ev.bind (clS4_val m (by omega) R hR hrow a' (lt_256 (by omega) ha)) ?_
      refine Ev.congr (fun k => ?_) (Ev.now _)
      refine congrArg some ?_
      rw [Bool.eq_iff_iff, beq_iff_eq]
      exact and_is' (lt_256 (by omega) hb') (cl_256 (by omega) R a')
end Go.Proofs.Ytemhlblajnlogaa.Pu
