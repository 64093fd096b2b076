/- What the law needs of the program's functions as plain functions, of the proofs that their calls answer so, and of plain laws: gathered by a program of this place (pack.py) out of its printed texts. No condition beyond what each statement says. -/
import Derived.Test.YtafnamchckehmaaZFnReduced14
import Derived.Test.YtafnamchckehmaaZFnReduced7
import Derived.Test.YtafnamchckehmaaZFnReduced13
import Derived.Test.YtafnamchckehmaaZFnReduced3
import Derived.Test.YtafnamchckehmaaZFnReduced8
import Derived.Test.YtafnamchckehmaaZFnReduced9
import Derived.Test.YtafnamchckehmaaZFnReduced15
import Derived.Test.YtafnamchckehmaaZFnReduced4
import Derived.Test.YtafnamchckehmaaZFnReduced10
namespace Go.Proofs.Ytafnamchckehmaa.Pu
open Go.RowKit Go.Proofs.YtafnamchckehmaaW.PrintWords Go.Proofs.YtafnamchckehmaaW.PrintLast Go.Proofs.YtafnamchckehmaaW.PrintMore Go.Proofs.Ytafnamchckehmaa.Pr
theorem withO_val {C : Nat × List Nat} (h : okC C) {o : Nat} (ho : o < 256) : Ev (fun k => impl_without.f k (C.1 : Int) (cast C.2) (o : Int) 0) ((C.1 : Int), cast (keptR C.2 o C.2.length)) := by
  obtain ⟨h1, h2, h3⟩ := h
  have := withI_val C.1 (by omega) C.2 h2 (fun i => lt_256 (by omega) (row_lt h3 i)) o 0 ho (by decide)
  rw [diff_zero, elN_full (by omega), List.length_range, leftR_full (by omega) h3] at this
  exact this
theorem withA_val {C : Nat × List Nat} (h : okC C) {a : Nat} (ha : a < 256) : Ev (fun k => impl_without.f k (C.1 : Int) (cast C.2) 0 (a : Int)) (((dropN C.1 C.2 a).1 : Int), cast (dropN C.1 C.2 a).2) := by
  obtain ⟨h1, h2, h3⟩ := h
  exact withI_val C.1 (by omega) C.2 h2 (fun i => lt_256 (by omega) (row_lt h3 i)) 0 a (by decide) ha
theorem accO_val {C : Nat × List Nat} (h : okC C) : impl_ReduceContext_accepted0.f ((cast C.2).length : Int) (C.1 : Int) (cast C.2) = some ((redO C : Nat) : Int) := by
  unfold impl_ReduceContext_accepted0.f redO
  rw [cast_length, if_pos (by have := h.2.1; omega), Int.toNat_natCast]
theorem accA_val {C : Nat × List Nat} (h : okC C) : impl_ReduceContext_accepted1.f (C.1 : Int) (C.1 : Int) (cast C.2) = some ((redA C : Nat) : Int) := by
  unfold impl_ReduceContext_accepted1.f redA
  rw [cast_length, if_pos (by have := h.1; have := h.2.1; omega), Int.toNat_natCast]
theorem redI_val (n : Int) (l : List Int) (hl : l.length ≤ 1048576) : Ev (fun k => impl_ReduceContext.f k n l) (redV n l) := by
  unfold impl_ReduceContext.f
  refine Ev.bind (clarI_val n l hl) ?_
  unfold redV
  cases hc : ctxB n l with
  | false =>
    rw [show clarV n l = (0, [], false) from by unfold clarV; rw [hc, if_neg (by decide)], if_neg (by decide)]
    exact Ev.congr (fun k => by rw [if_neg (by decide)]) (Ev.now _)
  | true =>
    obtain ⟨m, R, rfl, hm, rfl, hR, hb⟩ := ctxB_nat hc
    rw [clarV_nat hm hR hb, if_pos rfl, uncast, Int.toNat_natCast]
    have hC := clarN_ok hm hR
    have hO := keepO_ok hC
    unfold redN
    generalize clarN m R = C at *
    refine Ev.congr (fun k => by rw [if_pos rfl, accO_val hC, Option.bind_some]) ?_
    refine Ev.bind (withO_val hC (lt_256 hC.2.1 (ofBits_lt _ _))) ?_
    refine Ev.congr (f := fun k => (impl_without.f k ((keepO C).1 : Int) (cast (keepO C).2) 0 ((redA (keepO C) : Nat) : Int)).bind fun bt => some (bt.1, bt.2, true)) (fun k => by
      show ((impl_ReduceContext_accepted1.f ((keepO C).1 : Int) ((keepO C).1 : Int) (cast (keepO C).2)).bind _) = _
      rw [accA_val hO, Option.bind_some]; rfl) ?_
    refine Ev.bind (withA_val hO (lt_256 (show (keepO C).1 ≤ 8 by have := hO.1; omega) (ofBits_lt _ _))) ?_
    exact Ev.now _
theorem redS_l1 {C : Nat × List Nat} (h : okC C) : Ev (fun k => spec_ReduceContext.l1 k 0 0 (C.1 : Int) (cast C.2)) (((dropN C.1 C.2 (redA C)).1 : Int), cast (dropN C.1 C.2 (redA C)).2, true) := by
  obtain ⟨h1, h2, h3⟩ := h
  refine ev_fold (g := fun k (a : Nat) i => spec_ReduceContext.l1 k (a : Int) i (C.1 : Int) (cast C.2)) (bitStep fun j => redAttrV (C.1 : Int) (cast C.2) (j : Int)) (fun _ a => a < 2 ^ C.1) (N := C.1) ?_ (fun i a hi h => bitStep_lt hi h) C.1 0 0 (by omega) (Nat.two_pow_pos _) ?_
  · intro j a hj ha h
    refine Ev.step (f := fun k => (spec_IsReducibleAttribute.f k (C.1 : Int) (cast C.2) (j : Int)).bind fun t => if t = true then spec_ReduceContext.l1 k (Go.bits .or .i64 (a : Int) (shl .i64 1 (j : Int))) ((j + 1 : Nat) : Int) (C.1 : Int) (cast C.2) else spec_ReduceContext.l1 k (a : Int) ((j + 1 : Nat) : Int) (C.1 : Int) (cast C.2)) (fun k => ?_) ?_
    · simp only [spec_ReduceContext.l1]
      rw [if_pos (by omega), wrap_succ hj (by omega), wrapU_small _ (by omega) (by omega)]
      simp only [if_pos (show (0 : Int) ≤ (j : Int) by omega)]
    · refine Ev.bind (redAttrS_val _ _ (by rw [cast_length]; omega) _) ?_
      rw [or_bit (lt_256 (show C.1 ≤ 8 by omega) ha) (by omega)]
      unfold bitStep at h
      by_cases hb : redAttrV (C.1 : Int) (cast C.2) (j : Int) = true
      · rw [if_pos hb] at h; exact Ev.congr (fun k => if_pos hb) h
      · rw [if_neg hb] at h; exact Ev.congr (fun k => if_neg hb) h
  · intro b hb hlt
    rw [fold_bits] at hb
    subst hb
    refine Ev.step (f := fun k => (spec_DropAttributes.f k (C.1 : Int) (cast C.2) ((redA C : Nat) : Int)).bind fun t => some (t.1, t.2.1, t.2.2)) (fun k => ?_) ?_
    · simp only [spec_ReduceContext.l1]
      rw [if_neg (by omega)]
      rfl
    · refine Ev.bind (dropAS_val _ _ (by rw [cast_length]; omega) _) ?_
      rw [show redA C = ofBits (fun j => redAttrV (C.1 : Int) (cast C.2) (j : Int)) C.1 from rfl, dropA_nat h1 h2 h3 hlt]
      exact Ev.now _
theorem dropO_nat {C : Nat × List Nat} (h : okC C) {o : Nat} (ho : o < 2 ^ C.2.length) : dropOV (C.1 : Int) (cast C.2) (o : Int) = ((C.1 : Int), cast (keptR C.2 o C.2.length), true) := by
  unfold dropOV
  rw [show obsB (C.1 : Int) (cast C.2) (o : Int) = true from by unfold obsB; rw [ctxB_mk h.1 h.2.1 h.2.2, cast_length, isSetB_mk h.2.1 ho]; rfl, if_pos rfl, uncast, Int.toNat_natCast, cast_length]
theorem redS_l0 {C : Nat × List Nat} (h : okC C) : Ev (fun k => spec_ReduceContext.l0 k 0 0 (C.1 : Int) (cast C.2)) (((dropN (keepO C).1 (keepO C).2 (redA (keepO C))).1 : Int), cast (dropN (keepO C).1 (keepO C).2 (redA (keepO C))).2, true) := by
  have hC := h
  obtain ⟨h1, h2, h3⟩ := h
  refine ev_fold (g := fun k (a : Nat) i => spec_ReduceContext.l0 k (a : Int) i (C.1 : Int) (cast C.2)) (bitStep fun j => redObjV (C.1 : Int) (cast C.2) (j : Int)) (fun _ a => a < 2 ^ C.2.length) (N := C.2.length) ?_ (fun i a hi h => bitStep_lt hi h) C.2.length 0 0 (by omega) (Nat.two_pow_pos _) ?_
  · intro j a hj ha h
    refine Ev.step (f := fun k => (spec_IsReducibleObject.f k (C.1 : Int) (cast C.2) (j : Int)).bind fun t => if t = true then spec_ReduceContext.l0 k (Go.bits .or .i64 (a : Int) (shl .i64 1 (j : Int))) ((j + 1 : Nat) : Int) (C.1 : Int) (cast C.2) else spec_ReduceContext.l0 k (a : Int) ((j + 1 : Nat) : Int) (C.1 : Int) (cast C.2)) (fun k => ?_) ?_
    · simp only [spec_ReduceContext.l0]
      rw [if_pos (by rw [cast_length]; omega), wrap_succ hj (by omega), wrapU_small _ (by omega) (by omega)]
      simp only [if_pos (show (0 : Int) ≤ (j : Int) by omega)]
    · refine Ev.bind (redObjS_val _ _ (by rw [cast_length]; omega) _) ?_
      rw [or_bit (lt_256 h2 ha) (by omega)]
      unfold bitStep at h
      by_cases hb : redObjV (C.1 : Int) (cast C.2) (j : Int) = true
      · rw [if_pos hb] at h; exact Ev.congr (fun k => if_pos hb) h
      · rw [if_neg hb] at h; exact Ev.congr (fun k => if_neg hb) h
  · intro b hb hlt
    rw [fold_bits] at hb
    subst hb
    refine Ev.step (f := fun k => (spec_DropObjects.f k (C.1 : Int) (cast C.2) ((redO C : Nat) : Int)).bind fun t => spec_ReduceContext.l1 k 0 0 t.1 t.2.1) (fun k => ?_) ?_
    · simp only [spec_ReduceContext.l0]
      rw [if_neg (by rw [cast_length]; omega)]
      rfl
    · refine Ev.bind (dropOS_val _ _ (by rw [cast_length]; omega) _) ?_
      rw [show redO C = ofBits (fun j => redObjV (C.1 : Int) (cast C.2) (j : Int)) C.2.length from rfl, dropO_nat hC hlt]
      exact redS_l1 (keepO_ok hC)
theorem redS_val (n : Int) (l : List Int) (hl : l.length ≤ 1048576) : Ev (fun k => spec_ReduceContext.f k n l) (redV n l) := by
  unfold spec_ReduceContext.f
  refine Ev.bind (clarS_val n l hl) ?_
  unfold redV
  cases hc : ctxB n l with
  | false =>
    rw [show clarV n l = (0, [], false) from by unfold clarV; rw [hc, if_neg (by decide)], if_neg (by decide)]
    exact Ev.congr (fun k => if_neg (by decide)) (Ev.now _)
  | true =>
    obtain ⟨m, R, rfl, hm, rfl, hR, hb⟩ := ctxB_nat hc
    rw [clarV_nat hm hR hb, if_pos rfl, uncast, Int.toNat_natCast]
    exact Ev.congr (fun k => if_pos rfl) (redS_l0 (clarN_ok hm hR))
end Go.Proofs.Ytafnamchckehmaa.Pu
namespace Go.Proofs.Ytafnamchckehmaa.Pu
open Go.RowKit Go.Proofs.YtafnamchckehmaaW.PrintWords Go.Proofs.YtafnamchckehmaaW.PrintLast Go.Proofs.YtafnamchckehmaaW.PrintMore Go.Proofs.Ytafnamchckehmaa.Pr
theorem leftR_map (R : List Nat) (K : Nat) : leftR R 0 K R.length = R.map fun r => pack r K := by
  unfold leftR
  have e1 : (List.range R.length).filter (fun (j : Nat) => !(0 : Nat).testBit j) = List.range R.length := List.filter_eq_self.2 fun j _ => by rw [Nat.zero_testBit]; rfl
  rw [e1]
  refine List.ext_getElem (by simp) fun i h1 h2 => ?_
  simp only [List.getElem_map, List.getElem_range]
  unfold row
  rw [List.length_map] at h2
  rw [List.getD_eq_getElem?_getD, List.getElem?_eq_getElem h2]
  rfl
theorem mem_keptR {R : List Nat} {o x : Nat} : x ∈ keptR R o R.length ↔ ∃ g, g < R.length ∧ o.testBit g = false ∧ row R g = x := by
  unfold keptR
  rw [List.mem_map]
  constructor
  · rintro ⟨g, hg, e⟩
    obtain ⟨h1, h2⟩ := List.mem_filter.1 hg
    exact ⟨g, List.mem_range.1 h1, by simpa using h2, e⟩
  · rintro ⟨g, h1, h2, e⟩
    exact ⟨g, List.mem_filter.2 ⟨List.mem_range.2 h1, by simpa using h2⟩, e⟩
theorem col_rows {R : List Nat} {i j : Nat} (h : sub (col R j) (col R i) = true) {r : Nat} (hr : r ∈ R) (hj : r.testBit j = true) : r.testBit i = true := by
  obtain ⟨g, hg, rfl⟩ := mem_at hr
  rw [← col_bit hg] at hj ⊢
  exact sub_iff.1 h g hj
theorem keep_bit {m a j : Nat} (hj : j < m) : (diff (full m) a).testBit j = !a.testBit j := by rw [testBit_diff, testBit_full, decide_eq_true hj, Bool.true_and]
theorem keep_lt (m a : Nat) : diff (full m) a < 2 ^ m := Nat.lt_of_le_of_lt (diff_le _ _) (full_lt m)
theorem tells_same (m : Nat) (D : List Nat) : tells m D (diff (full m) (sameV m D)) := by
  have first : ∀ (d j : Nat), j < d → j < m → ∃ i, i ≤ j ∧ (sameV m D).testBit i = false ∧ col D i = col D j := by
    intro d
    induction d with
    | zero => intro j h; omega
    | succ d ih =>
      intro j h hj
      by_cases hs : (sameV m D).testBit j = true
      · unfold sameV at hs
        rw [testBit_ofBits, Bool.and_eq_true, decide_eq_true_iff, decide_eq_true_iff] at hs
        obtain ⟨_, i, hi, e⟩ := hs
        obtain ⟨i', h1, h2, h3⟩ := ih i (by omega) (by omega)
        exact ⟨i', by omega, h2, h3.trans e⟩
      · exact ⟨j, Nat.le_refl _, by simpa using hs, rfl⟩
  intro j hj _ r hr h
  obtain ⟨i, h1, h2, h3⟩ := first (j + 1) j (by omega) hj
  have := h i (by omega) (by rw [keep_bit (by omega), h2]; rfl) fun x hx hxj => col_rows (by rw [h3]; exact sub_refl _) hx hxj
  exact col_rows (by rw [h3]; exact sub_refl _) hr this
def redCol (m : Nat) (R : List Nat) (j : Nat) : Prop := ∀ r ∈ R, (∀ i, i < m → col R i ≠ col R j → sub (col R j) (col R i) = true → r.testBit i = true) → r.testBit j = true
theorem bey_col {m : Nat} {R : List Nat} {j : Nat} : bey (cols m R) (col R j) (full R.length) = col R j ↔ redCol m R j := by
  rw [bey_eq_iff (sub_full_of (col_lt R j))]
  unfold redCol
  constructor
  · intro h r hr hall
    obtain ⟨g, hg, rfl⟩ := mem_at hr
    rw [← col_bit hg]
    refine h g ((testBit_bey _ _ _ g).2 ⟨by rw [testBit_full, decide_eq_true hg], fun i hi hne hs => ?_⟩)
    rw [cols_length] at hi
    rw [row_cols R hi] at hne hs ⊢
    rw [col_bit hg]
    exact hall i hi hne hs
  · intro h g hg
    obtain ⟨h1, h2⟩ := (testBit_bey _ _ _ g).1 hg
    rw [testBit_full, decide_eq_true_iff] at h1
    rw [col_bit h1]
    refine h _ (getD_mem h1) fun i hi hne hs => ?_
    have := h2 i (by rw [cols_length]; exact hi) (by rw [row_cols R hi]; exact hne) (by rw [row_cols R hi]; exact hs)
    rw [row_cols R hi, col_bit h1] at this
    exact this
theorem redAttr_iff {C : Nat × List Nat} (h : okC C) {j : Nat} (hj : j < C.1) : redAttrV (C.1 : Int) (cast C.2) (j : Int) = true ↔ redCol C.1 C.2 j := by
  have hc := ctxB_mk h.1 h.2.1 h.2.2
  have ha : attrB (C.1 : Int) (cast C.2) (j : Int) = true := by unfold attrB; rw [hc]; simp; omega
  unfold redAttrV
  rw [ha, Bool.true_and, Int.toNat_natCast, Int.toNat_natCast, uncast, cast_length, decide_eq_true_iff]
  exact bey_col
theorem redObj_iff {C : Nat × List Nat} (h : okC C) {g : Nat} (hg : g < C.2.length) : redObjV (C.1 : Int) (cast C.2) (g : Int) = true ↔ redRow C.1 C.2 (row C.2 g) := by
  have hc := ctxB_mk h.1 h.2.1 h.2.2
  rw [redObj_nat hc hg, decide_eq_true_iff]
  exact bey_row (h.2.2 _ (getD_mem hg))
theorem tells_red {C : Nat × List Nat} (h : okC C) : tells C.1 C.2 (diff (full C.1) (redA C)) := by
  have key : ∀ (d j : Nat), 2 ^ C.2.length - col C.2 j < d → j < C.1 → ∀ r ∈ C.2, (∀ i, i < C.1 → (diff (full C.1) (redA C)).testBit i = true → (∀ x ∈ C.2, x.testBit j = true → x.testBit i = true) → r.testBit i = true) → r.testBit j = true := by
    intro d
    induction d with
    | zero => intro j h; omega
    | succ d ih =>
      intro j hd hj r hr hall
      by_cases hk : (redA C).testBit j = true
      · have hred : redCol C.1 C.2 j := by
          unfold redA at hk
          rw [testBit_ofBits, Bool.and_eq_true] at hk
          exact (redAttr_iff h hj).1 hk.2
        refine hred r hr fun i hi hne hs => ?_
        have hlt : col C.2 j < col C.2 i := by
          have := sub_le hs
          omega
        have := col_lt C.2 i
        exact ih i (by omega) hi r hr fun i' hi' hKi' hall' => hall i' hi' hKi' fun x hx hxj => hall' x hx (col_rows hs hx hxj)
      · exact hall j hj (by rw [keep_bit hj]; simpa using hk) fun x _ hx => hx
  intro j hj _ r hr hall
  exact key _ j (Nat.lt_succ_self _) hj r hr hall
def outC (m : Nat) (D : List Nat) (a : Nat) : Nat × List Nat := ((elN (diff (full m) a)).length, D.map fun r => pack r (diff (full m) a))
theorem dropN_out (m : Nat) (D : List Nat) (a : Nat) : dropN m D a = outC m D a := by
  unfold dropN outC
  rw [leftR_map]
theorem num_clar {m : Nat} (hm : m ≤ 6) (R : List Nat) : numC (clarN m R).1 (clarN m R).2 = numC m R := by
  unfold clarN
  rw [dropN_out]
  unfold outC
  dsimp only
  rw [numC_pack (show m ≤ 8 by omega) (keep_lt m _) (tells_same m _)]
  refine numC_congr fun a _ => ?_
  have e : cl m (ddR R R.length) a = cl m R a := cl_rows (fun r => by rw [mem_ddR R R.length (Nat.le_refl _), List.take_length]) a
  rw [e]
theorem mem_keepO {C : Nat × List Nat} (h : okC C) {r : Nat} : r ∈ (keepO C).2 ↔ r ∈ C.2 ∧ ¬ redRow C.1 C.2 r := by
  unfold keepO
  dsimp only
  rw [mem_keptR]
  constructor
  · rintro ⟨g, hg, ho, rfl⟩
    refine ⟨getD_mem hg, fun hr => ?_⟩
    unfold redO at ho
    rw [testBit_ofBits, decide_eq_true hg, Bool.true_and, (redObj_iff h hg).2 hr] at ho
    cases ho
  · rintro ⟨h1, h2⟩
    obtain ⟨g, hg, rfl⟩ := mem_at h1
    refine ⟨g, hg, ?_, rfl⟩
    unfold redO
    rw [testBit_ofBits, decide_eq_true hg, Bool.true_and]
    cases hv : redObjV (C.1 : Int) (cast C.2) (g : Int) with
    | false => rfl
    | true => exact absurd ((redObj_iff h hg).1 hv) h2
theorem num_keep {C : Nat × List Nat} (h : okC C) : numC (keepO C).1 (keepO C).2 = numC C.1 C.2 := by
  show numC C.1 (keepO C).2 = numC C.1 C.2
  refine numC_congr fun a _ => ?_
  rw [cl_kept h.2.2 (fun r hr => ((mem_keepO h).1 hr).1) fun r hr => ?_]
  by_cases hr2 : redRow C.1 C.2 r
  · exact Or.inr hr2
  · exact Or.inl ((mem_keepO h).2 ⟨hr, hr2⟩)
theorem redN_out (m : Nat) (R : List Nat) : redN m R = outC (keepO (clarN m R)).1 (keepO (clarN m R)).2 (redA (keepO (clarN m R))) := by
  unfold redN
  rw [dropN_out]
theorem num_red {m : Nat} (hm : m ≤ 6) {R : List Nat} (hR : R.length ≤ 8) : numC (redN m R).1 (redN m R).2 = numC m R := by
  have h1 := clarN_ok hm hR
  have h2 := keepO_ok h1
  have := h2.1
  rw [redN_out]
  unfold outC
  dsimp only
  rw [numC_pack (show (keepO (clarN m R)).1 ≤ 8 by omega) (keep_lt _ _) (tells_red h2), num_keep h1, num_clar hm]
theorem redN_ok {m : Nat} (hm : m ≤ 6) {R : List Nat} (hR : R.length ≤ 8) : okC (redN m R) := by
  have h1 := clarN_ok hm hR
  have h2 := keepO_ok h1
  exact dropN_ok h2.1 h2.2.1 _
theorem red_rows {m : Nat} (hm : m ≤ 6) {R : List Nat} (hR : R.length ≤ 8) {g : Nat} (hg : g < (redN m R).2.length) : redObjV ((redN m R).1 : Int) (cast (redN m R).2) (g : Int) = false := by
  have h1 := clarN_ok hm hR
  have h2 := keepO_ok h1
  have h3 := redN_ok hm hR
  cases hv : redObjV ((redN m R).1 : Int) (cast (redN m R).2) (g : Int) with
  | false => rfl
  | true =>
    exfalso
    have hr := (redObj_iff h3 hg).1 hv
    have hmem := getD_mem hg
    rw [redN_out] at hr hmem
    unfold outC at hr hmem
    dsimp only at hr hmem
    obtain ⟨r, hr2, e⟩ := List.mem_map.1 hmem
    rw [← e] at hr
    have h21 := h2.1
    have := redRow_pack (show (keepO (clarN m R)).1 ≤ 8 by omega) (keep_lt _ _) (tells_red h2) h2.2.2 hr2 hr
    obtain ⟨k1, k2⟩ := (mem_keepO h1).1 hr2
    exact k2 fun j hj hall => this j hj fun x hx => hall x ((mem_keepO h1).1 hx).1
theorem red_cols {m : Nat} (hm : m ≤ 6) {R : List Nat} (hR : R.length ≤ 8) {k : Nat} (hk : k < (redN m R).1) : redAttrV ((redN m R).1 : Int) (cast (redN m R).2) (k : Int) = false := by
  have h1 := clarN_ok hm hR
  have h2 := keepO_ok h1
  have h3 := redN_ok hm hR
  cases hv : redAttrV ((redN m R).1 : Int) (cast (redN m R).2) (k : Int) with
  | false => rfl
  | true =>
    exfalso
    have hr := (redAttr_iff h3 hk).1 hv
    rw [redN_out] at hr hk
    unfold outC at hr hk
    dsimp only at hr hk
    generalize hC : keepO (clarN m R) = C at *
    have hC8 : C.1 ≤ 8 := by have := h2.1; omega
    have hKl := keep_lt C.1 (redA C)
    have hmem := getD_mem hk
    have hbit := (mem_elK hC8 hKl).1 hmem
    have hjm := testBit_lt hKl hbit
    have hno : (redA C).testBit (row (elN (diff (full C.1) (redA C))) k) = false := by
      rw [keep_bit hjm] at hbit
      simpa using hbit
    have hA : ∀ j, (redA C).testBit j = (decide (j < C.1) && redAttrV (C.1 : Int) (cast C.2) (j : Int)) := fun j => by unfold redA; rw [testBit_ofBits]
    rw [hA, decide_eq_true hjm, Bool.true_and] at hno
    have hcol : ∀ q, q < (elN (diff (full C.1) (redA C))).length → col (C.2.map fun r => pack r (diff (full C.1) (redA C))) q = col C.2 (row (elN (diff (full C.1) (redA C))) q) := by
      intro q hq
      refine Nat.eq_of_testBit_eq fun g => ?_
      unfold col
      rw [testBit_ofBits, testBit_ofBits, List.length_map]
      by_cases hg : g < C.2.length
      · have e : row (C.2.map fun r => pack r (diff (full C.1) (redA C))) g = pack (row C.2 g) (diff (full C.1) (redA C)) := by
          unfold row
          rw [List.getD_eq_getElem?_getD, List.getD_eq_getElem?_getD, List.getElem?_map, List.getElem?_eq_getElem hg]
          rfl
        rw [e, pack_bit, decide_eq_true hq, Bool.true_and]
      · rw [decide_eq_false hg, Bool.false_and, Bool.false_and]
    have hred : redCol C.1 C.2 (row (elN (diff (full C.1) (redA C))) k) := by
      intro r hrm hall
      have := hr (pack r (diff (full C.1) (redA C))) (List.mem_map.2 ⟨r, hrm, rfl⟩) fun q hq hne hs => by
        rw [hcol q hq, hcol k hk] at hne hs
        rw [pack_bit, decide_eq_true hq, Bool.true_and]
        exact hall _ (testBit_lt hKl ((mem_elK hC8 hKl).1 (getD_mem hq))) hne hs
      rw [pack_bit, Bool.and_eq_true] at this
      exact this.2
    rw [(redAttr_iff h2 hjm).2 hred] at hno
    cases hno
theorem same2_loop (l : List Int) (hl : l.length ≤ 9223372036854775807) : ∀ (rest : List Int) (i : Nat), l.drop i = rest → Ev (fun k => spec_l2Same.l0 k l l (i : Int)) true := by
  intro rest
  induction rest with
  | nil =>
    intro i h
    have := drop_nil h
    refine Ev.step (f := fun _ => some true) (fun k => ?_) (Ev.now _)
    simp only [spec_l2Same.l0]
    rw [if_neg (by omega)]
  | cons x rest ih =>
    intro i h
    obtain ⟨hi, hx, hd⟩ := drop_cons (d := 0) h
    refine Ev.step (fun k => ?_) (ih (i + 1) hd)
    simp only [spec_l2Same.l0]
    rw [if_pos (by omega), if_pos (by omega), if_pos (by omega), if_pos trivial, wrap_succ hi hl]
theorem eqCtx_self (n : Int) (l : List Int) (hl : l.length ≤ 9223372036854775807) : Ev (fun k => spec_EqualContext.f k n l n l) true := by
  unfold spec_EqualContext.f spec_l2Same.f
  refine Ev.congr (fun k => by rw [if_pos rfl, if_pos rfl]) ?_
  exact Ev.bind (same2_loop l hl l 0 rfl) (Ev.now _)
theorem con_num {m : Nat} (hm : m ≤ 8) {R : List Nat} (hc : ctxB (m : Int) (cast R) = true) : (conV (m : Int) (cast R)).length = numC m R := by
  rw [conV_nat hc]
  unfold conN
  rw [List.length_map, keptN_length hm]
  rfl
theorem obj4_ex (b : List Int) (hb : b.length ≤ 1048576) : ∃ v : Int × List Int × Int, Ev (fun k => spec_l4Objects.f k b) v ∧ v.2.1.length ≤ 9 := by
  obtain ⟨h1, e1⟩ := new_ex b hb
  obtain ⟨⟨n, l, i2, h2⟩, e2, _, hl, k2⟩ := draw3_ex b hb 0 h1 (by decide)
  dsimp only at hl k2
  obtain ⟨s, i3, h3, e3, _, _, k3⟩ := below_ex b hb i2 h2 k2 (shl .i64 1 (IntKind.u64.wrap ((l.length : Int))))
  obtain ⟨y, i4, h4, e4, _, _, k4⟩ := below_ex b hb i3 h3 k3 16
  have go : ∀ w, Ev (fun k => if y = 0 then ((spec_l3Bent.f k b i4 h4).bind fun bt438 => (some (bt438.1, bt438.2.1, s))) else (if y = 1 then ((spec_l2Bent.f b i4 h4).bind fun bt444 => (some (n, l, bt444.1))) else (some (n, l, s)))) w → Ev (fun k => spec_l4Objects.f k b) w := by
    intro w hw
    unfold spec_l4Objects.f
    refine Ev.bind e1 (Ev.bind e2 ?_)
    dsimp only
    refine Ev.congr (fun k => by rw [if_pos (u64_nonneg _), e3]) ?_
    simp only [Option.bind_some]
    rw [e4]
    exact hw
  by_cases c0 : y = 0
  · obtain ⟨⟨n', l', i5, h5⟩, e5, hl', _⟩ := bent3_ex b hb i4 h4 k4
    dsimp only at hl'
    have e6 : Ev (fun k => (spec_l3Bent.f k b i4 h4).bind fun bt438 => (some (bt438.1, bt438.2.1, s))) (n', l', s) := Ev.bind e5 (Ev.now _)
    exact ⟨(n', l', s), go _ (Ev.congr (fun k => by rw [if_pos c0]) e6), hl'⟩
  · by_cases c1 : y = 1
    · obtain ⟨x, i5, h5, e5, _⟩ := bent2_ex b hb i4 h4 k4
      exact ⟨(n, l, x), go _ (Ev.congr (fun k => by rw [if_neg c0, if_pos c1, e5]; rfl) (Ev.now _)), by dsimp only; omega⟩
    · exact ⟨(n, l, s), go _ (Ev.congr (fun k => by rw [if_neg c0, if_neg c1]) (Ev.now _)), by dsimp only; omega⟩
theorem att4_ex (b : List Int) (hb : b.length ≤ 1048576) : ∃ v : Int × List Int × Int, Ev (fun k => spec_l4Attributes.f k b) v ∧ v.2.1.length ≤ 9 := by
  obtain ⟨h1, e1⟩ := new_ex b hb
  obtain ⟨⟨n, l, i2, h2⟩, e2, _, hl, k2⟩ := draw3_ex b hb 0 h1 (by decide)
  dsimp only at hl k2
  obtain ⟨s, i3, h3, e3, _, _, k3⟩ := below_ex b hb i2 h2 k2 (shl .i64 1 (IntKind.u64.wrap n))
  obtain ⟨y, i4, h4, e4, _, _, k4⟩ := below_ex b hb i3 h3 k3 16
  have go : ∀ w, Ev (fun k => if y = 0 then ((spec_l3Bent.f k b i4 h4).bind fun bt482 => (some (bt482.1, bt482.2.1, s))) else (if y = 1 then ((spec_l2Bent.f b i4 h4).bind fun bt488 => (some (n, l, bt488.1))) else (some (n, l, s)))) w → Ev (fun k => spec_l4Attributes.f k b) w := by
    intro w hw
    unfold spec_l4Attributes.f
    refine Ev.bind e1 (Ev.bind e2 ?_)
    dsimp only
    refine Ev.congr (fun k => by rw [if_pos (u64_nonneg _), e3]) ?_
    simp only [Option.bind_some]
    rw [e4]
    exact hw
  by_cases c0 : y = 0
  · obtain ⟨⟨n', l', i5, h5⟩, e5, hl', _⟩ := bent3_ex b hb i4 h4 k4
    dsimp only at hl'
    have e6 : Ev (fun k => (spec_l3Bent.f k b i4 h4).bind fun bt482 => (some (bt482.1, bt482.2.1, s))) (n', l', s) := Ev.bind e5 (Ev.now _)
    exact ⟨(n', l', s), go _ (Ev.congr (fun k => by rw [if_pos c0]) e6), hl'⟩
  · by_cases c1 : y = 1
    · obtain ⟨x, i5, h5, e5, _⟩ := bent2_ex b hb i4 h4 k4
      exact ⟨(n, l, x), go _ (Ev.congr (fun k => by rw [if_neg c0, if_pos c1, e5]; rfl) (Ev.now _)), by dsimp only; omega⟩
    · exact ⟨(n, l, s), go _ (Ev.congr (fun k => by rw [if_neg c0, if_neg c1]) (Ev.now _)), by dsimp only; omega⟩
theorem red_last {m : Nat} (hm : m ≤ 6) {R : List Nat} (hR : R.length ≤ 8) (hb : ∀ r ∈ R, r < 2 ^ m) : Ev (fun k => laws_FnReduced.l1 k 0 (m : Int) (cast R) ((redN m R).1 : Int) (cast (redN m R).2)) true := by
  have h3 := redN_ok hm hR
  have hlc : (cast (redN m R).2).length ≤ 1048576 := by rw [cast_length]; have := h3.2.1; omega
  have hlr : (cast R).length ≤ 1048576 := by rw [cast_length]; omega
  have h31 := h3.1
  refine ev_fold (g := fun k (_ : Unit) i => laws_FnReduced.l1 k i (m : Int) (cast R) ((redN m R).1 : Int) (cast (redN m R).2)) (fun _ a => a) (fun _ _ => True) (N := (redN m R).1) ?_ (fun _ _ _ _ => trivial) (redN m R).1 0 () (by omega) trivial ?_
  · intro i _ hi _ h
    refine Ev.step (f := fun k => (impl_IsReducibleAttribute.f k ((redN m R).1 : Int) (cast (redN m R).2) (i : Int)).bind fun t659 => (if t659 = true then (some false) else (laws_FnReduced.l1 k ((i + 1 : Nat) : Int) (m : Int) (cast R) ((redN m R).1 : Int) (cast (redN m R).2)))) (fun k => ?_) ?_
    · simp only [laws_FnReduced.l1]
      rw [if_pos (by omega), wrap_succ hi (by omega)]
    · refine Ev.bind (redAttrI_val _ _ hlc (i : Int)) ?_
      rw [red_cols hm hR hi]
      exact Ev.congr (fun k => by rw [if_neg (by decide)]) h
  · intro _ _ _
    refine Ev.step (f := fun k => (spec_Concepts.f k ((redN m R).1 : Int) (cast (redN m R).2)).bind fun t660 => ((spec_Concepts.f k (m : Int) (cast R)).bind fun t663 => (some ((t660.length : Int) == (t663.length : Int))))) (fun k => ?_) ?_
    · simp only [laws_FnReduced.l1]
      rw [if_neg (by omega)]
    · refine Ev.bind (conS_val _ _ hlc) ?_
      refine Ev.bind (conS_val _ _ hlr) ?_
      rw [con_num (by omega) (ctxB_mk h3.1 h3.2.1 h3.2.2), con_num (by omega) (ctxB_mk hm hR hb), num_red hm hR, beq_self_eq_true]
      exact Ev.now true
theorem red_first {m : Nat} (hm : m ≤ 6) {R : List Nat} (hR : R.length ≤ 8) (hb : ∀ r ∈ R, r < 2 ^ m) : Ev (fun k => laws_FnReduced.l0 k 0 (m : Int) (cast R) ((redN m R).1 : Int) (cast (redN m R).2)) true := by
  have h3 := redN_ok hm hR
  have hlc : (cast (redN m R).2).length ≤ 1048576 := by rw [cast_length]; have := h3.2.1; omega
  have h32 := h3.2.1
  refine ev_fold (g := fun k (_ : Unit) i => laws_FnReduced.l0 k i (m : Int) (cast R) ((redN m R).1 : Int) (cast (redN m R).2)) (fun _ a => a) (fun _ _ => True) (N := (redN m R).2.length) ?_ (fun _ _ _ _ => trivial) (redN m R).2.length 0 () (by omega) trivial ?_
  · intro i _ hi _ h
    refine Ev.step (f := fun k => (impl_IsReducibleObject.f k ((redN m R).1 : Int) (cast (redN m R).2) (i : Int)).bind fun t658 => (if t658 = true then (some false) else (laws_FnReduced.l0 k ((i + 1 : Nat) : Int) (m : Int) (cast R) ((redN m R).1 : Int) (cast (redN m R).2)))) (fun k => ?_) ?_
    · simp only [laws_FnReduced.l0]
      rw [if_pos (by rw [cast_length]; omega), wrap_succ hi (by omega)]
    · refine Ev.bind (redObjI_val _ _ hlc (i : Int)) ?_
      rw [red_rows hm hR hi]
      exact Ev.congr (fun k => by rw [if_neg (by decide)]) h
  · intro _ _ _
    refine Ev.step (fun k => ?_) (red_last hm hR hb)
    simp only [laws_FnReduced.l0]
    rw [if_neg (by rw [cast_length]; omega)]
theorem red_j1 (n : Int) (l : List Int) (hl : l.length ≤ 9) : Ev (fun k => laws_FnReduced.j1 k (redV n l).2.2 false n l (redV n l).1 (redV n l).2.1) true := by
  cases hc : ctxB n l with
  | false =>
    have e : (redV n l).2.2 = false := by unfold redV; rw [hc, if_neg (by decide)]
    refine Ev.step (f := fun k => (spec_IsContext.f k n l).bind fun t657 => (some (!t657))) (fun k => ?_) ?_
    · simp only [laws_FnReduced.j1]
      rw [if_neg (by decide), if_neg (by rw [e]; decide)]
    · refine Ev.bind (ctxS_val n l (by omega)) ?_
      rw [hc]
      exact Ev.now true
  | true =>
    have hc2 := hc
    obtain ⟨m, R, rfl, hm, rfl, hR, hb⟩ := ctxB_nat hc2
    have e : redV (m : Int) (cast R) = (((redN m R).1 : Int), cast (redN m R).2, true) := by
      unfold redV
      rw [hc, if_pos rfl, uncast, Int.toNat_natCast]
    rw [e]
    refine Ev.step (fun k => ?_) (red_first hm hR hb)
    simp only [laws_FnReduced.j1]
    rw [if_neg (by decide), if_pos trivial]
theorem red_j0 (n : Int) (l : List Int) (hl : l.length ≤ 9) (n2 : Int) (l2 : List Int) (hl2 : l2.length ≤ 9) : Ev (fun k => laws_FnReduced.j0 k (redV n l).2.2 (clarV n2 l2).2.2 false n l (redV n l).1 (redV n l).2.1 n2 l2 (clarV n2 l2).1 (clarV n2 l2).2.1) true := by
  have hj := red_j1 n l hl
  cases hc : ctxB n2 l2 with
  | false =>
    have e : (clarV n2 l2).2.2 = false := by unfold clarV; rw [hc, if_neg (by decide)]
    refine Ev.step (fun k => ?_) hj
    simp only [laws_FnReduced.j0]
    rw [if_neg (by decide), if_neg (by rw [e]; decide)]
  | true =>
    have hc2 := hc
    obtain ⟨m, R, rfl, hm, rfl, hR, hb⟩ := ctxB_nat hc2
    rw [clarV_nat hm hR hb]
    have h1 := clarN_ok hm hR
    have h12 := h1.2.1
    have h11 := h1.1
    refine Ev.step (f := fun k => (spec_Concepts.f k ((clarN m R).1 : Int) (cast (clarN m R).2)).bind fun t651 => ((spec_Concepts.f k (m : Int) (cast R)).bind fun t654 => (laws_FnReduced.j1 k (redV n l).2.2 ((t651.length : Int) != (t654.length : Int)) n l (redV n l).1 (redV n l).2.1))) (fun k => ?_) ?_
    · simp only [laws_FnReduced.j0]
      rw [if_neg (by decide), if_pos trivial]
    · refine Ev.bind (conS_val _ _ (by rw [cast_length]; omega)) ?_
      refine Ev.bind (conS_val _ _ (by rw [cast_length]; omega)) ?_
      rw [con_num (by omega) (ctxB_mk h1.1 h1.2.1 h1.2.2), con_num (by omega) hc, num_clar hm, show (((numC m R : Nat) : Int) != ((numC m R : Nat) : Int)) = false by simp]
      exact hj
theorem FnReduced (l0 : List Int) (_ : l0.length ≤ 9223372036854775807) (_ : ∀ x ∈ l0, (Lit.int .u8 x).wf = true) : ∃ k, laws_FnReduced.f k l0 = some true := by
  apply Ev.rounds
  unfold laws_FnReduced.f laws_big.f
  simp only [Option.bind_some]
  by_cases hbig : (l0.length : Int) > 1048576
  · exact Ev.congr (fun k => by rw [if_pos (decide_eq_true hbig)]) (Ev.now true)
  · have hb : l0.length ≤ 1048576 := by omega
    refine Ev.congr (fun k => by rw [if_neg (by simpa using hbig)]) ?_
    obtain ⟨h1, e1⟩ := new_ex l0 hb
    obtain ⟨⟨n, l, i2, h2⟩, e2, hl, _, _⟩ := bent3_ex l0 hb 0 h1 (by decide)
    obtain ⟨⟨a, p, s⟩, e3, hp⟩ := obj4_ex l0 hb
    obtain ⟨⟨c, q, t⟩, e4, hq⟩ := att4_ex l0 hb
    obtain ⟨⟨e, r, g⟩, e5, hr⟩ := col_ex l0 hb
    dsimp only at hl hp hq hr
    have d1 : Ev (fun k => spec_DrawReduceContext.f k l0) (n, l) := by unfold spec_DrawReduceContext.f; exact Ev.bind e1 (Ev.bind e2 (Ev.now _))
    have d2 : Ev (fun k => spec_DrawClarify.f k l0) (n, l) := by unfold spec_DrawClarify.f; exact Ev.bind e1 (Ev.bind e2 (Ev.now _))
    have d3 : Ev (fun k => spec_DrawDropObjects.f k l0) (a, p, s) := by unfold spec_DrawDropObjects.f; exact Ev.bind e3 (Ev.now _)
    have d4 : Ev (fun k => spec_DrawDropAttributes.f k l0) (c, q, t) := by unfold spec_DrawDropAttributes.f; exact Ev.bind e4 (Ev.now _)
    have d5 : Ev (fun k => spec_DrawIsReducibleObject.f k l0) (e, r, g) := by unfold spec_DrawIsReducibleObject.f; exact Ev.bind e5 (Ev.now _)
    have l1 := redV_length n l
    have l2 := clarV_length n l
    have l3 := dropOV_length a p s
    have l4 := dropAV_length c q t
    refine Ev.bind d1 ?_
    dsimp only
    refine Ev.bind (redI_val n l (by omega)) ?_
    refine Ev.bind (redS_val n l (by omega)) ?_
    refine Ev.bind d2 ?_
    dsimp only
    refine Ev.bind (clarI_val n l (by omega)) ?_
    refine Ev.bind (clarS_val n l (by omega)) ?_
    refine Ev.bind d3 ?_
    dsimp only
    refine Ev.bind (dropOI_val a p (by omega) s) ?_
    refine Ev.bind (dropOS_val a p (by omega) s) ?_
    refine Ev.bind d4 ?_
    dsimp only
    refine Ev.bind (dropAI_val c q (by omega) t) ?_
    refine Ev.bind (dropAS_val c q (by omega) t) ?_
    refine Ev.bind d5 ?_
    dsimp only
    refine Ev.congr (fun k => by rw [if_neg (by simp)]) ?_
    refine Ev.bind (eqCtx_self _ _ (by omega)) ?_
    refine Ev.congr (fun k => by rw [if_pos rfl, if_neg (by simp)]) ?_
    refine Ev.bind (eqCtx_self _ _ (by omega)) ?_
    refine Ev.congr (fun k => by rw [if_pos rfl, if_neg (by simp)]) ?_
    refine Ev.bind (eqCtx_self _ _ (by omega)) ?_
    refine Ev.congr (fun k => by rw [if_pos rfl, if_neg (by simp)]) ?_
    refine Ev.bind (eqCtx_self _ _ (by omega)) ?_
    refine Ev.congr (fun k => by rw [if_pos rfl]) ?_
    refine Ev.bind (redObjI_val e r (by omega) g) ?_
    refine Ev.bind (redObjS_val e r (by omega) g) ?_
    refine Ev.congr (fun k => by rw [if_neg (by simp)]) ?_
    refine Ev.bind (redAttrI_val e r (by omega) g) ?_
    refine Ev.bind (redAttrS_val e r (by omega) g) ?_
    rw [show (redAttrV e r g != redAttrV e r g) = false by simp]
    exact red_j0 n l hl n l hl
end Go.Proofs.Ytafnamchckehmaa.Pu
