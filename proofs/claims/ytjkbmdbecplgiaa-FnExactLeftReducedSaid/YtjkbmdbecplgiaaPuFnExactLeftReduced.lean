/- The plain law: the program's LeftReduced is the reference's. No condition. -/
import Derived.Test.YtjkbmdbecplgiaaPr12
import Derived.Test.YtjkbmdbecplgiaaPr19
import Derived.Test.YtjkbmdbecplgiaaPr30
import Derived.Test.YtjkbmdbecplgiaaPuLaw
import Derived.Test.YtjkbmdbecplgiaaPuEquiv
import Derived.Test.YtjkbmdbecplgiaaPuAre
import Derived.Test.YtjkbmdbecplgiaaPuElem
namespace Go.Proofs.Ytjkbmdbecplgiaa.Pu
set_option linter.unusedSimpArgs false
open Go.RowKit Go.Proofs.YtjkbmdbecplgiaaW.PrintWords Go.Proofs.YtjkbmdbecplgiaaW.PrintLast Go.Proofs.YtjkbmdbecplgiaaW.PrintMore Go.Proofs.Ytjkbmdbecplgiaa.Pr

/-- an element taken out of the premise, if the rule still follows -/
def lredStep (R : Rules) (b : Nat) (s e : Nat) : Nat := if s.testBit e = true ∧ sub b (clo R (diff s (2 ^ e))) = true then diff s (2 ^ e) else s
/-- the elements i, i + 1, .. , i + d - 1 tried one after the other -/
def lred (R : Rules) (b : Nat) : Nat → Nat → Nat → Nat
  | _, 0, s => s
  | i, d + 1, s => lred R b (i + 1) d (lredStep R b s i)
theorem diff_lt {s e m : Nat} (h : s < 2 ^ m) : diff s e < 2 ^ m := Nat.lt_of_le_of_lt (diff_le s e) h
theorem lredStep_lt {R : Rules} {b s e m : Nat} (h : s < 2 ^ m) : lredStep R b s e < 2 ^ m := by
  unfold lredStep
  split
  · exact diff_lt h
  · exact h
theorem lredStep_bit {R : Rules} {b s e j : Nat} (h : e ≠ j) : (lredStep R b s e).testBit j = s.testBit j := by
  unfold lredStep
  split
  · rw [testBit_diff, Nat.testBit_two_pow, decide_eq_false h]; simp
  · rfl
theorem lred_lt {R : Rules} {b m : Nat} : ∀ (d i s : Nat), s < 2 ^ m → lred R b i d s < 2 ^ m
  | 0, _, _, h => h
  | d + 1, i, s, h => by rw [lred]; exact lred_lt d (i + 1) _ (lredStep_lt h)
theorem lred_off {R : Rules} {b m : Nat} : ∀ (d i s : Nat), s < 2 ^ m → m ≤ i → lred R b i d s = s
  | 0, _, _, _, _ => rfl
  | d + 1, i, s, h, hi => by
    rw [lred]
    have : lredStep R b s i = s := by
      unfold lredStep
      rw [if_neg]
      rw [lt_two_pow_iff.1 h i hi]
      simp
    rw [this]
    exact lred_off d (i + 1) s h (by omega)
theorem lred_add {R : Rules} {b : Nat} : ∀ (d i s e : Nat), lred R b i (d + e) s = lred R b (i + d) e (lred R b i d s)
  | 0, i, s, e => by rw [Nat.zero_add, Nat.add_zero, lred]
  | d + 1, i, s, e => by rw [show d + 1 + e = (d + e) + 1 from by omega, lred, lred, lred_add d (i + 1), show i + (d + 1) = i + 1 + d from by omega]
/-- what is left of a rule -/
def lredR (R : Rules) (r : IR) : IR := ⟨((lred R (toP r).2 0 8 (toP r).1 : Nat) : Int), r.f1⟩
theorem shl_small' (e : Nat) (he : e ≤ 8) : shl .i64 1 (e : Int) = ((2 ^ e : Nat) : Int) := by
  have h : e = 0 ∨ e = 1 ∨ e = 2 ∨ e = 3 ∨ e = 4 ∨ e = 5 ∨ e = 6 ∨ e = 7 ∨ e = 8 := by omega
  rcases h with rfl | rfl | rfl | rfl | rfl | rfl | rfl | rfl | rfl <;> decide +kernel
theorem pow_le_256 {e : Nat} (he : e ≤ 7) : 2 ^ e < 256 := Nat.lt_of_lt_of_le (Nat.pow_lt_pow_right (by decide) (show e < 8 by omega)) (by decide)
theorem and_pow (s e : Nat) : s &&& 2 ^ e = if s.testBit e = true then 2 ^ e else 0 := by
  apply Nat.eq_of_testBit_eq
  intro i
  rw [Nat.testBit_and, Nat.testBit_two_pow]
  by_cases h : e = i
  · subst h
    cases hb : s.testBit e <;> simp [hb]
  · rw [decide_eq_false h, Bool.and_false]
    split
    · rw [Nat.testBit_two_pow, decide_eq_false h]
    · simp
theorem diff_pow_self {s e : Nat} : diff s (2 ^ e) = s ↔ s.testBit e = false := by
  constructor
  · intro h
    have := testBit_diff s (2 ^ e) e
    rw [h, Nat.testBit_two_pow] at this
    simpa using this
  · intro h
    apply Nat.eq_of_testBit_eq
    intro i
    rw [testBit_diff, Nat.testBit_two_pow]
    by_cases hi : e = i
    · subst hi; rw [h]; rfl
    · rw [decide_eq_false hi]; simp
theorem less_val {s e : Nat} (hs : s < 256) (he : e ≤ 7) : wrap64 ((s : Int) - (Go.bits .and .i64 (s : Int) (shl .i64 1 (IntKind.u64.wrap ((e : Nat) : Int))))) = ((diff s (2 ^ e) : Nat) : Int) := by
  have hp := pow_le_256 he
  rw [wrapU_small _ (by omega) (by omega), shl_small' e (by omega), and_nat (by omega) (by omega), diff_eq_sub]
  have := Nat.and_le_left (n := s) (m := 2 ^ e)
  unfold wrap64
  omega
theorem lrS_inner (m : Nat) (hm : m ≤ 6) (l : List IR) (hl : l.length ≤ 9223372036854775807) (ha : l.all anyR = true) (out : List IR) (ho : out.length ≤ 1000) (i : Int) (b : Nat) (hb : b < 256) (res : List IR × Bool) : ∀ (d e s : Nat), e + d = m → s < 2 ^ m →
    Ev (fun k => spec_LeftReduced.l0 k (m : Int) l (out ++ [⟨((lred (toR l) b e d s : Nat) : Int), (b : Int)⟩]) (wrap64 (i + 1))) res → Ev (fun k => spec_LeftReduced.l1 k (m : Int) l out i (e : Int) (s : Int) (b : Int)) res := by
  have hm2 : 2 ^ m ≤ 2 ^ 6 := Nat.pow_le_pow_right (by decide) hm
  intro d
  induction d with
  | zero =>
    intro e s he hs h
    refine Ev.step (fun k => ?_) h
    simp only [spec_LeftReduced.l1]
    rw [if_neg (by omega), if_pos (by omega)]
    rfl
  | succ d ih =>
    intro e s he hs h
    rw [lred] at h
    have hw : wrap64 ((e : Int) + 1) = ((e + 1 : Nat) : Int) := by unfold wrap64; omega
    have hlv := less_val (s := s) (e := e) (by omega) (by omega)
    have hu : (0 : Int) ≤ IntKind.u64.wrap ((e : Nat) : Int) := by rw [wrapU_small _ (by omega) (by omega)]; omega
    have hdl : diff s (2 ^ e) < 256 := Nat.lt_of_le_of_lt (diff_le _ _) (by omega)
    cases hbit : s.testBit e with
    | false =>
      have hself := diff_pow_self.2 hbit
      have hst : lredStep (toR l) b s e = s := by unfold lredStep; rw [if_neg (by rw [hbit]; simp)]
      rw [hst] at h
      refine Ev.step (fun k => ?_) (ih (e + 1) s (by omega) hs h)
      simp only [spec_LeftReduced.l1]
      rw [if_pos (by omega), if_pos hu, hlv, if_pos (by rw [hself]), hw]
    | true =>
      have hself : diff s (2 ^ e) ≠ s := fun h' => by rw [diff_pow_self.1 h'] at hbit; cases hbit
      have hclt := (clo_spec (toR_small ha) hdl).1
      refine Ev.step (f := fun k => (spec_l9Closed.f k l ((diff s (2 ^ e) : Nat) : Int)).bind fun t => if (Go.bits .and .i64 t (b : Int)) = (b : Int) then spec_LeftReduced.l1 k (m : Int) l out i ((e + 1 : Nat) : Int) ((diff s (2 ^ e) : Nat) : Int) (b : Int) else spec_LeftReduced.l1 k (m : Int) l out i ((e + 1 : Nat) : Int) (s : Int) (b : Int)) (fun k => ?_) ?_
      · simp only [spec_LeftReduced.l1]
        rw [if_pos (by omega), if_pos hu, hlv, if_neg (by omega), hw]
      · refine Ev.bind (clS_val l hl ha _ hdl) ?_
        cases hc : sub b (clo (toR l) (diff s (2 ^ e))) with
        | true =>
          have hst : lredStep (toR l) b s e = diff s (2 ^ e) := by unfold lredStep; rw [if_pos ⟨hbit, hc⟩]
          rw [hst] at h
          exact Ev.congr (fun k => by rw [if_pos ((and_eq_sub' hb hclt).2 hc)]) (ih (e + 1) _ (by omega) (diff_lt hs) h)
        | false =>
          have hst : lredStep (toR l) b s e = s := by unfold lredStep; rw [if_neg (by rw [hc]; simp)]
          rw [hst] at h
          exact Ev.congr (fun k => by rw [if_neg (by rw [and_eq_sub' hb hclt, hc]; decide)]) (ih (e + 1) s (by omega) hs h)
theorem lred_8 {R : Rules} {b m s : Nat} (hm : m ≤ 8) (hs : s < 2 ^ m) : lred R b 0 8 s = lred R b 0 m s := by
  obtain ⟨d, hd⟩ : ∃ d, m + d = 8 := ⟨8 - m, by omega⟩
  rw [show lred R b 0 8 s = lred R b 0 (m + d) s from by rw [hd], lred_add, Nat.zero_add, lred_off d m _ (lred_lt m 0 s hs) (Nat.le_refl _)]
theorem lrS_loop (m : Nat) (hm : m ≤ 6) (l : List IR) (hl : l.length ≤ 40) (ha : l.all anyR = true) (hr : ∀ r ∈ l, (toP r).1 < 2 ^ m ∧ (toP r).2 < 2 ^ m) : ∀ (rest : List IR) (i : Nat) (out : List IR), l.drop i = rest → out.length = i →
    Ev (fun k => spec_LeftReduced.l0 k (m : Int) l out (i : Int)) (out ++ rest.map (lredR (toR l)), true) := by
  intro rest
  induction rest with
  | nil =>
    intro i out h ho
    have := drop_nil h
    refine Ev.step (f := fun _ => some (out, true)) (fun k => ?_) ?_
    · simp only [spec_LeftReduced.l0]
      rw [if_neg (by omega)]
    · rw [List.map_nil, List.append_nil]; exact Ev.now _
  | cons x rest ih =>
    intro i out h ho
    obtain ⟨hi, hx, hd⟩ := drop_cons (d := z25) h
    obtain ⟨e1, e2, h1, h2⟩ := anyR_nat (anyR_rest h ha)
    have hlt := hr x (List.mem_of_mem_drop (i := i) (by rw [h]; exact List.mem_cons_self))
    refine Ev.step (f := fun k => spec_LeftReduced.l1 k (m : Int) l out (i : Int) ((0 : Nat) : Int) ((toP x).1 : Int) ((toP x).2 : Int)) (fun k => ?_) ?_
    · simp only [spec_LeftReduced.l0]
      rw [if_pos (by omega), if_pos (by omega), rdR, hx, e1, e2]
      rfl
    · refine lrS_inner m hm l (by omega) ha out (by omega) _ _ h2 _ m 0 _ (by omega) hlt.1 ?_
      rw [wrap_succ hi (by omega), ← lred_8 (by omega) hlt.1, ← e2]
      have := ih (i + 1) (out ++ [lredR (toR l) x]) hd (by simp [ho])
      rw [List.map_cons]
      simpa [lredR] using this
/-- the same step, for an element that is known to be there -/
def lstep (R : Rules) (b : Nat) (s e : Nat) : Nat := if sub b (clo R (diff s (2 ^ e))) = true then diff s (2 ^ e) else s
theorem lred_list (R : Rules) (b s0 : Nat) : ∀ (d i s : Nat), (∀ j, i ≤ j → s.testBit j = s0.testBit j) → ((List.range' i d).filter fun (e : Nat) => s0.testBit e).foldl (lstep R b) s = lred R b i d s := by
  intro d
  induction d with
  | zero => intro i s _; rfl
  | succ d ih =>
    intro i s h
    rw [List.range'_succ, lred]
    cases hb : s0.testBit i with
    | true =>
      rw [List.filter_cons_of_pos hb, List.foldl_cons]
      have e : lstep R b s i = lredStep R b s i := by
        unfold lstep lredStep
        rw [h i (Nat.le_refl _), hb]
        simp
      rw [e]
      exact ih (i + 1) _ fun j hj => by rw [lredStep_bit (by omega)]; exact h j (by omega)
    | false =>
      rw [List.filter_cons_of_neg (by rw [hb]; decide)]
      have e : lredStep R b s i = s := by
        unfold lredStep
        rw [h i (Nat.le_refl _), hb]
        simp
      rw [e]
      exact ih (i + 1) s fun j hj => h j (by omega)
theorem lrI_inner (l : List IR) (hl : l.length ≤ 9223372036854775807) (ha : l.all anyR = true) (out rs : List IR) (n i : Int) (ho : out.length ≤ 1000) (b : Nat) (hb : b < 256) (es : List Int) (hes : es.length ≤ 8) (res : List IR × Bool) : ∀ (rest : List Nat) (j s : Nat), es.drop j = rest.map (fun (e : Nat) => (e : Int)) → (∀ e ∈ rest, e ≤ 7) → s < 256 →
    Ev (fun k => impl_LeftReduced.l0 k l (out ++ [⟨((rest.foldl (lstep (toR l) b) s : Nat) : Int), (b : Int)⟩]) rs n (wrap64 (i + 1))) res → Ev (fun k => impl_LeftReduced.l1 k l out rs n i es (es.length : Int) (j : Int) (s : Int) (b : Int)) res := by
  intro rest
  induction rest with
  | nil =>
    intro j s h _ hs he
    have := drop_nil (show es.drop j = [] from h)
    refine Ev.step (fun k => ?_) he
    simp only [impl_LeftReduced.l1]
    rw [if_neg (by omega), if_pos (by omega)]
    rfl
  | cons e rest ih =>
    intro j s h hr hs he
    obtain ⟨hj, hx, hd⟩ := drop_cons (d := 0) (show es.drop j = ((e : Nat) : Int) :: rest.map (fun (e : Nat) => (e : Int)) from h)
    have h7 := hr e List.mem_cons_self
    have hp := pow_le_256 h7
    have hdl : diff s (2 ^ e) < 256 := Nat.lt_of_le_of_lt (diff_le _ _) hs
    rw [List.foldl_cons] at he
    have hv : folV l ⟨((diff s (2 ^ e) : Nat) : Int), (b : Int)⟩ = sub b (clo (toR l) (diff s (2 ^ e))) := by
      have hx : anyR (⟨((diff s (2 ^ e) : Nat) : Int), (b : Int)⟩ : IR) = true := by
        unfold anyR isAny
        dsimp only
        rw [decide_eq_true (by constructor <;> omega), decide_eq_true (by constructor <;> omega)]
        rfl
      unfold folV
      rw [ha, hx]
      unfold toP
      simp only [Int.toNat_natCast, Bool.true_and]
    refine Ev.step (f := fun k => (impl_Follows.f k l ((diff s (2 ^ e) : Nat) : Int) (b : Int)).bind fun t => if t = true then impl_LeftReduced.l1 k l out rs n i es (es.length : Int) ((j + 1 : Nat) : Int) ((diff s (2 ^ e) : Nat) : Int) (b : Int) else impl_LeftReduced.l1 k l out rs n i es (es.length : Int) ((j + 1 : Nat) : Int) (s : Int) (b : Int)) (fun k => ?_) ?_
    · simp only [impl_LeftReduced.l1]
      rw [if_pos (by omega), if_pos (by omega), if_pos (by omega), show rd es (j : Int) = ((e : Nat) : Int) from by unfold rd; rw [Int.toNat_natCast]; exact hx, if_pos (by omega), shl_small' e (by omega), andNot_nat (by omega) (by omega), wrap_succ hj (by omega)]
    · refine Ev.bind (folI_val l hl _ _) ?_
      rw [hv]
      cases hc : sub b (clo (toR l) (diff s (2 ^ e))) with
      | true =>
        rw [show lstep (toR l) b s e = diff s (2 ^ e) from by unfold lstep; rw [if_pos hc]] at he
        exact Ev.congr (fun k => by rw [if_pos rfl]) (ih (j + 1) _ hd (fun e' h' => hr e' (List.mem_cons_of_mem _ h')) hdl he)
      | false =>
        rw [show lstep (toR l) b s e = s from by unfold lstep; rw [if_neg (by rw [hc]; decide)]] at he
        exact Ev.congr (fun k => by rw [if_neg (by decide)]) (ih (j + 1) s hd (fun e' h' => hr e' (List.mem_cons_of_mem _ h')) hs he)
theorem lrI_loop (l : List IR) (hl : l.length ≤ 40) (ha : l.all anyR = true) : ∀ (rest : List IR) (i : Nat) (out : List IR), l.drop i = rest → out.length = i →
    Ev (fun k => impl_LeftReduced.l0 k l out l (l.length : Int) (i : Int)) (out ++ rest.map (lredR (toR l)), true) := by
  intro rest
  induction rest with
  | nil =>
    intro i out h ho
    have := drop_nil h
    refine Ev.step (f := fun _ => some (out, true)) (fun k => ?_) ?_
    · simp only [impl_LeftReduced.l0]
      rw [if_neg (by omega)]
    · rw [List.map_nil, List.append_nil]; exact Ev.now _
  | cons x rest ih =>
    intro i out h ho
    obtain ⟨hi, hx, hd⟩ := drop_cons (d := z25) h
    have hax := anyR_rest h ha
    obtain ⟨e1, e2, h1, h2⟩ := anyR_nat hax
    refine Ev.step (f := fun k => (impl_ElementsOf.f k ((toP x).1 : Int)).bind fun t => impl_LeftReduced.l1 k l out l (l.length : Int) (i : Int) t (t.length : Int) ((0 : Nat) : Int) ((toP x).1 : Int) ((toP x).2 : Int)) (fun k => ?_) ?_
    · simp only [impl_LeftReduced.l0]
      rw [if_pos (by omega), if_pos (by omega), if_pos (by omega), rdR, hx, e1, e2]
      rfl
    · refine Ev.bind (elemsI_val _) ?_
      have hev : (elemsV ((toP x).1 : Int)).drop 0 = ((List.range' 0 8).filter fun (e : Nat) => (toP x).1.testBit e).map fun (e : Nat) => (e : Int) := by
        rw [List.drop_zero]
        unfold elemsV elemsI isAny
        rw [decide_eq_true (by constructor <;> omega), if_pos rfl, Int.toNat_natCast, List.range_eq_range']
      refine lrI_inner l (by omega) ha out l _ _ (by omega) _ h2 (elemsV ((toP x).1 : Int)) (elemsV_length _) _ ((List.range' 0 8).filter fun (e : Nat) => (toP x).1.testBit e) 0 _ hev ?_ h1 ?_
      · intro e he
        have := (List.mem_filter.1 he).1
        have := List.mem_range'_1.1 this
        omega
      · rw [lred_list (toR l) _ (toP x).1 8 0 _ (fun _ _ => rfl), wrap_succ hi (by omega), ← e2]
        have := ih (i + 1) (out ++ [lredR (toR l) x]) hd (by simp [ho])
        rw [List.map_cons]
        simpa [lredR] using this
def lrV (n : Int) (l : List IR) : List IR × Bool := if areV n l = true then (l.map (lredR (toR l)), true) else ([], false)
theorem lrS_val (n : Int) (l : List IR) (hl : l.length ≤ 9223372036854775807) : Ev (fun k => spec_LeftReduced.f k n l) (lrV n l) := by
  unfold spec_LeftReduced.f lrV
  simp only [Option.bind_some]
  refine Ev.bind (areS_val n l hl) ?_
  cases h : areV n l with
  | false => exact Ev.congr (fun k => by rw [if_neg (by decide), if_neg (by decide)]) (Ev.now _)
  | true =>
    obtain ⟨m, rfl, hm, h40, ha, hr⟩ := areV_nat h
    refine Ev.congr (fun k => by rw [if_pos rfl]) ?_
    exact lrS_loop m hm l h40 ha hr l 0 [] rfl rfl
theorem lrI_val (n : Int) (l : List IR) (_hl : l.length ≤ 9223372036854775807) : Ev (fun k => impl_LeftReduced.f k n l) (lrV n l) := by
  unfold impl_LeftReduced.f lrV
  rw [areI_val]
  simp only [Option.bind_some]
  cases h : areV n l with
  | false => exact Ev.congr (fun k => by rw [if_neg (by decide), if_neg (by decide)]) (Ev.now _)
  | true =>
    obtain ⟨m, rfl, hm, h40, ha, hr⟩ := areV_nat h
    refine Ev.congr (fun k => by rw [if_pos rfl]) ?_
    exact lrI_loop l h40 ha l 0 [] rfl rfl
theorem lrV_length (n : Int) (l : List IR) : (lrV n l).1.length ≤ l.length := by
  unfold lrV
  split
  · simp
  · simp
theorem FnExactLeftReduced (n : Int) (l : List LR) (_ : (Lit.int .i64 n).wf = true) (hl : l.length ≤ 9223372036854775807) (_ : ∀ x ∈ l, (Lit.int .i64 x.f0).wf = true ∧ (Lit.int .i64 x.f1).wf = true) : ∃ k, laws_FnExactLeftReduced.f k n l = some true := by
  apply Ev.rounds
  unfold laws_FnExactLeftReduced.f
  obtain ⟨m, hm, hm2⟩ := sz_val l hl
  rw [hm]
  simp only [Option.bind_some]
  by_cases h : m < 0
  · exact Ev.congr (fun k => by rw [if_pos h]) (Ev.now true)
  · have hle := hm2 (by omega)
    have hc : (l.map conv).length ≤ 1048576 := by rw [List.length_map]; omega
    have hv := lrV_length n (l.map conv)
    refine Ev.congr (fun k => by rw [if_neg h]) ?_
    refine Ev.bind (toRule_val l hle) ?_
    refine Ev.bind (lrS_val n _ (by omega)) ?_
    refine Ev.bind (toRule_val l hle) ?_
    refine Ev.bind (lrI_val n _ (by omega)) ?_
    generalize hq : lrV n (l.map conv) = q at *
    refine Ev.bind (eqRule_self q.1 (by omega)) ?_
    refine Ev.congr (fun k => by rw [if_pos rfl, show (q.2 != q.2) = false from by simp]) ?_
    refine Ev.step (g := fun k => laws_FnExactLeftReduced.j0 k n l q.1 q.2 (l.map conv) q.1 q.2 false) (fun k => by simp only [laws_FnExactLeftReduced.j0]; rw [if_neg (by decide)]) ?_
    refine Ev.bind (toRule_val l hle) ?_
    refine Ev.bind (eqRule_self _ (by omega)) ?_
    refine Ev.congr (fun k => by rw [if_pos rfl]) ?_
    refine Ev.bind (mark_val _ hc) ?_
    refine Ev.congr (fun k => by rw [if_neg (mark_pos _)]) ?_
    refine Ev.bind (eqRule_self q.1 (by omega)) ?_
    refine Ev.congr (fun k => by rw [if_pos rfl, show (q.2 != q.2) = false from by simp]) ?_
    refine Ev.step (g := fun k => laws_FnExactLeftReduced.j1 k n l q.1 q.2 q.1 false) (fun k => by simp only [laws_FnExactLeftReduced.j1]; rw [if_neg (by decide)]) ?_
    refine Ev.bind (mark_val q.1 (by omega)) ?_
    refine Ev.bind (held_val q.1 (by omega)) ?_
    refine Ev.congr (fun k => by rw [if_neg (mark_pos _), if_pos rfl]) ?_
    refine Ev.bind (toRule_val l hle) ?_
    refine Ev.bind (lrI_val n _ (by omega)) ?_
    rw [hq]
    refine Ev.bind (eqRule_self q.1 (by omega)) ?_
    refine Ev.congr (fun k => by rw [if_pos rfl, show (q.2 != q.2) = false from by simp]) ?_
    refine Ev.step (g := fun k => laws_FnExactLeftReduced.j2 k (marked q.1 1) (1 + 2 * (q.1.length : Int)) false) (fun k => by simp only [laws_FnExactLeftReduced.j2]; rw [if_neg (by decide)]) ?_
    refine Ev.bind (held_val q.1 (by omega)) ?_
    exact Ev.congr (fun k => by rw [if_neg (mark_pos _), if_pos rfl]) (Ev.now true)
end Go.Proofs.Ytjkbmdbecplgiaa.Pu
