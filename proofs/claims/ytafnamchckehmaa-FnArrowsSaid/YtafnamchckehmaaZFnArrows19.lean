/- What the law needs of the program's functions as plain functions, of the proofs that their calls answer so, and of plain laws: gathered by a program of this place (pack.py) out of its printed texts. No condition beyond what each statement says. -/
import Derived.Test.YtafnamchckehmaaZFnArrows17
import Derived.Test.YtafnamchckehmaaZFnArrows7
import Derived.Test.YtafnamchckehmaaZFnArrows16
import Derived.Test.YtafnamchckehmaaZFnArrows8
import Derived.Test.YtafnamchckehmaaZFnArrows15
import Derived.Test.YtafnamchckehmaaZFnArrows3
import Derived.Test.YtafnamchckehmaaZFnArrows18
import Derived.Test.YtafnamchckehmaaZFnArrows6
import Derived.Test.YtafnamchckehmaaZFnArrows10
namespace Go.Proofs.Ytafnamchckehmaa.Pu
open Go.RowKit Go.Proofs.YtafnamchckehmaaW.PrintWords Go.Proofs.YtafnamchckehmaaW.PrintLast Go.Proofs.YtafnamchckehmaaW.PrintMore Go.Proofs.Ytafnamchckehmaa.Pr
theorem upI_val (n : Int) (l : List Int) (hl : l.length ≤ 1048576) (g : Int) : Ev (fun _ => impl_UpArrows.f n l g) (upV n l g) := by
  unfold impl_UpArrows.f
  rw [if_pos hl]
  exact Ev.now _
def fitStep (K : List Nat) (s j i : Nat) (b : Bool) : Bool := b && (!upP K j i || s.testBit i)
theorem fold_fit (K : List Nat) (s j : Nat) {m : Nat} : ∀ (d i : Nat) (b : Bool), i + d = m → (foldIdx (fitStep K s j) i m b = true ↔ b = true ∧ ∀ q, i ≤ q → q < m → upP K j q = true → s.testBit q = true) := by
  intro d
  induction d with
  | zero =>
    intro i b h
    rw [foldIdx_end _ (by omega)]
    exact ⟨fun h => ⟨h, fun q h1 h2 => by omega⟩, fun h => h.1⟩
  | succ d ih =>
    intro i b h
    rw [foldIdx_step _ (show i < m by omega), ih (i + 1) _ (by omega)]
    unfold fitStep
    rw [Bool.and_eq_true]
    constructor
    · rintro ⟨⟨h1, h2⟩, h3⟩
      refine ⟨h1, fun q hq hm hp => ?_⟩
      by_cases e : q = i
      · subst e
        rw [hp] at h2
        simpa using h2
      · exact h3 q (by omega) hm hp
    · rintro ⟨h1, h2⟩
      refine ⟨⟨h1, ?_⟩, fun q hq hm hp => h2 q (by omega) hm hp⟩
      cases hp : upP K j i with
      | false => rfl
      | true => rw [h2 i (Nat.le_refl _) (by omega) hp]; rfl
theorem fold_upQ (K : List Nat) (s j m : Nat) : foldIdx (fitStep K s j) 0 m (!s.testBit j) = upQ K s m j := by
  unfold upQ
  rw [Bool.eq_iff_iff, fold_fit K s j m 0 _ (by omega), Bool.and_eq_true, sub_iff]
  refine and_congr_right fun _ => ⟨fun h i hi => ?_, fun h q _ hq hp => h q ?_⟩
  · rw [testBit_ofBits, Bool.and_eq_true, decide_eq_true_iff] at hi
    exact h i (Nat.zero_le _) hi.1 hi.2
  · rw [testBit_ofBits, decide_eq_true hq, hp]; rfl
theorem upN_lt (m : Nat) (R : List Nat) (g : Nat) : upN m R g < 2 ^ m := ofBits_lt _ _
theorem l8Up_val {m : Nat} (hm : m ≤ 6) {R : List Nat} (hR : R.length ≤ 8) (hb : ∀ r ∈ R, r < 2 ^ m) {g : Nat} (hg : g < R.length) : Ev (fun k => spec_l8Up.f k (m : Int) (cast R) (g : Int)) ((upN m R g : Nat) : Int) := by
  have hrow := fun i => lt_256 (show m ≤ 8 by omega) (row_lt hb i)
  have hcol := fun i => lt_256 hR (col_lt R i)
  unfold spec_l8Up.f
  refine ev_fold (g := fun k (a : Nat) i => spec_l8Up.l0 k (g : Int) (a : Int) i (m : Int) (cast R)) (bitStep (upQ (cols m R) (row R g) m)) (fun _ a => a < 2 ^ m) (N := m) ?_ (fun i a hi h => bitStep_lt hi h) m 0 0 (by omega) (Nat.two_pow_pos _) ?_
  · intro j a hj ha h
    have ha' := lt_256 (show m ≤ 8 by omega) ha
    refine Ev.step (f := fun k => (spec_l3Column.f k (m : Int) (cast R) (j : Int)).bind fun t => spec_l8Up.l1 k (g : Int) (a : Int) (j : Int) t (!(row R g).testBit j) 0 (m : Int) (cast R)) (fun k => ?_) ?_
    · simp only [spec_l8Up.l0]
      rw [if_pos (by omega)]
      simp only [if_pos (show (0 : Int) ≤ (g : Int) by omega), if_pos (show (g : Int) < ((cast R).length : Int) by rw [cast_length]; omega), rd_row, l2Has_val (row R g) j (by have := hrow g; omega) (by omega), Option.bind_some]
    · refine Ev.bind (colS_val R hR hrow _ j (by omega)) ?_
      refine ev_fold (g := fun k (b : Bool) i => spec_l8Up.l1 k (g : Int) (a : Int) (j : Int) ((col R j : Nat) : Int) b i (m : Int) (cast R)) (fitStep (cols m R) (row R g) j) (fun _ _ => True) (N := m) ?_ (fun _ _ _ _ => trivial) m 0 _ (by omega) trivial ?_
      · intro i b hi _ h
        refine Ev.step (f := fun k => (spec_l3Column.f k (m : Int) (cast R) (i : Int)).bind fun t => if b = true then (if t = ((col R j : Nat) : Int) then spec_l8Up.l1 k (g : Int) (a : Int) (j : Int) ((col R j : Nat) : Int) true ((i + 1 : Nat) : Int) (m : Int) (cast R) else if Go.bits .and .i64 t ((col R j : Nat) : Int) = ((col R j : Nat) : Int) then (spec_l2Has.f t (g : Int)).bind fun u => spec_l8Up.l1 k (g : Int) (a : Int) (j : Int) ((col R j : Nat) : Int) u ((i + 1 : Nat) : Int) (m : Int) (cast R) else spec_l8Up.l1 k (g : Int) (a : Int) (j : Int) ((col R j : Nat) : Int) true ((i + 1 : Nat) : Int) (m : Int) (cast R)) else spec_l8Up.l1 k (g : Int) (a : Int) (j : Int) ((col R j : Nat) : Int) false ((i + 1 : Nat) : Int) (m : Int) (cast R)) (fun k => ?_) ?_
        · simp only [spec_l8Up.l1]
          rw [if_pos (by omega), wrap_succ hi (by omega)]
        · refine Ev.bind (colS_val R hR hrow _ i (by omega)) ?_
          cases b with
          | false => exact Ev.congr (fun k => by rw [if_neg (by decide)]; rfl) h
          | true =>
            unfold fitStep upP at h
            rw [row_cols R hi, row_cols R hj, Bool.true_and] at h
            by_cases h1 : col R i = col R j
            · rw [show (!(decide (col R i ≠ col R j) && sub (col R j) (col R i)) || (row R g).testBit i) = true from by rw [decide_eq_false (fun h => h h1)]; rfl] at h
              exact Ev.congr (fun k => by rw [if_pos rfl, if_pos (by rw [h1])]) h
            · rw [decide_eq_true h1, Bool.true_and] at h
              by_cases h2 : sub (col R j) (col R i) = true
              · rw [h2, Bool.not_true, Bool.false_or] at h
                refine Ev.congr (fun k => by rw [if_pos rfl, if_neg (by omega), if_pos ((and_is (hcol j) (hcol i)).2 h2), l2Has_val _ _ (by have := hcol i; omega) (by omega), Option.bind_some, show (col R i).testBit g = (row R g).testBit i from by unfold col; rw [testBit_ofBits, decide_eq_true hg, Bool.true_and]]) h
              · rw [Bool.eq_false_iff.2 h2, Bool.not_false, Bool.true_or] at h
                exact Ev.congr (fun k => by rw [if_pos rfl, if_neg (by omega), if_neg (fun h => h2 ((and_is (hcol j) (hcol i)).1 h))]) h
      · intro b hb' _
        rw [fold_upQ] at hb'
        refine Ev.step (fun k => ?_) h
        simp only [spec_l8Up.l1]
        rw [if_neg (by omega), wrap_succ hj (by omega), wrapU_small _ (by omega) (by omega), or_bit ha' (by omega)]
        unfold bitStep
        rw [← hb']
        by_cases h1 : b = true
        · rw [if_pos h1, if_pos (by omega), if_pos h1]
        · rw [if_neg h1, if_neg h1]
  · intro b hb' _
    refine Ev.step (f := fun _ => some (b : Int)) (fun k => ?_) ?_
    · simp only [spec_l8Up.l0]
      rw [if_neg (by omega)]
    · rw [hb', fold_bits]; exact Ev.now _
theorem upS_val (n : Int) (l : List Int) (hl : l.length ≤ 1048576) (g : Int) : Ev (fun k => spec_UpArrows.f k n l g) (upV n l g) := by
  unfold spec_UpArrows.f upV
  refine Ev.bind (ctxS_val n l (by omega)) ?_
  cases hc : ctxB n l with
  | false =>
    rw [show objB n l g = false from by unfold objB; rw [hc]; rfl]
    exact Ev.congr (fun k => by rw [if_neg (by decide), if_neg (by decide)]) (Ev.now _)
  | true =>
    refine Ev.congr (fun k => by rw [if_pos rfl, l1In_obj hl, Option.bind_some]) ?_
    rw [show decide (0 ≤ g ∧ g < (l.length : Int)) = objB n l g from by unfold objB; rw [hc]; rfl]
    cases h : objB n l g with
    | false => exact Ev.congr (fun k => by rw [if_neg (by decide), if_neg (by decide)]) (Ev.now _)
    | true =>
      obtain ⟨m, R, g', rfl, hm, rfl, hR, hb, rfl, hg, e1, e2, e3⟩ := obj_nat h
      rw [e1, e2, e3, if_pos rfl]
      refine Ev.congr (fun k => by rw [if_pos rfl]) ?_
      exact Ev.bind (l8Up_val hm hR hb hg) (Ev.now _)
def dblV (n : Int) (l : List Int) (g : Int) : Int := Go.bits .and .i64 (downV n l g) (upV n l g)
theorem dblI_val (n : Int) (l : List Int) (hl : l.length ≤ 1048576) (g : Int) : Ev (fun k => impl_DoubleArrows.f k n l g) (dblV n l g) := by
  unfold impl_DoubleArrows.f
  refine Ev.bind (downI_val n l hl g) ?_
  exact Ev.bind (upI_val n l hl g) (Ev.now _)
end Go.Proofs.Ytafnamchckehmaa.Pu
namespace Go.Proofs.Ytafnamchckehmaa.Pu
open Go.RowKit Go.Proofs.YtafnamchckehmaaW.PrintWords Go.Proofs.YtafnamchckehmaaW.PrintLast Go.Proofs.YtafnamchckehmaaW.PrintMore Go.Proofs.Ytafnamchckehmaa.Pr
theorem testBit_fold_by (L : List Nat) (s j : Nat) : ∀ (d i f : Nat), i + d = L.length → ((foldIdx (byStep L s) i L.length f).testBit j = true ↔ f.testBit j = true ∧ ∀ g, i ≤ g → g < L.length → row L g ≠ s → sub s (row L g) = true → (row L g).testBit j = true) := by
  intro d
  induction d with
  | zero =>
    intro i f h
    rw [foldIdx_end _ (by omega)]
    exact ⟨fun h => ⟨h, fun g h1 h2 => by omega⟩, fun h => h.1⟩
  | succ d ih =>
    intro i f h
    have hi : i < L.length := by omega
    rw [foldIdx_step _ hi f, ih (i + 1) _ (by omega)]
    unfold byStep
    by_cases hc : row L i ≠ s ∧ sub s (row L i) = true
    · rw [if_pos hc, Nat.testBit_and, Bool.and_eq_true]
      constructor
      · rintro ⟨⟨h1, h2⟩, h3⟩
        refine ⟨h1, fun g hg hg' k1 k2 => ?_⟩
        by_cases e : g = i
        · subst e; exact h2
        · exact h3 g (by omega) hg' k1 k2
      · rintro ⟨h1, h2⟩
        exact ⟨⟨h1, h2 i (Nat.le_refl _) hi hc.1 hc.2⟩, fun g hg hg' => h2 g (by omega) hg'⟩
    · rw [if_neg hc]
      constructor
      · rintro ⟨h1, h3⟩
        refine ⟨h1, fun g hg hg' k1 k2 => ?_⟩
        by_cases e : g = i
        · subst e; exact absurd ⟨k1, k2⟩ hc
        · exact h3 g (by omega) hg' k1 k2
      · rintro ⟨h1, h2⟩
        exact ⟨h1, fun g hg hg' => h2 g (by omega) hg'⟩
theorem testBit_bey (L : List Nat) (s f j : Nat) : (bey L s f).testBit j = true ↔ f.testBit j = true ∧ ∀ g, g < L.length → row L g ≠ s → sub s (row L g) = true → (row L g).testBit j = true := by
  unfold bey
  rw [testBit_fold_by L s j L.length 0 f (by omega)]
  exact ⟨fun h => ⟨h.1, fun g h1 => h.2 g (Nat.zero_le _) h1⟩, fun h => ⟨h.1, fun g _ h1 => h.2 g h1⟩⟩
theorem sub_bey {L : List Nat} {s f : Nat} (h : sub s f = true) : sub s (bey L s f) = true :=
  sub_iff.2 fun i hi => (testBit_bey L s f i).2 ⟨sub_iff.1 h i hi, fun _ _ _ h2 => sub_iff.1 h2 i hi⟩
theorem sub_full_of {m a : Nat} (h : a < 2 ^ m) : sub a (full m) = true := sub_iff.2 fun i hi => by
  rw [testBit_full, decide_eq_true_iff]
  rcases Nat.lt_or_ge i m with h' | h'
  · exact h'
  · rw [lt_two_pow_iff.1 h i h'] at hi; cases hi
theorem bey_eq_iff {L : List Nat} {s f : Nat} (h : sub s f = true) : bey L s f = s ↔ ∀ i, (bey L s f).testBit i = true → s.testBit i = true :=
  ⟨fun e i hi => by rw [e] at hi; exact hi, fun k => (sub_antisymm (sub_bey h) (sub_iff.2 k)).symm⟩
theorem down_zero {m : Nat} {R : List Nat} (hb : ∀ r ∈ R, r < 2 ^ m) (g : Nat) : downN m R g = 0 ↔ bey R (row R g) (full m) = row R g := by
  unfold downN
  rw [diff_eq_zero, sub_iff, bey_eq_iff (sub_full_of (row_lt hb g))]
theorem down_bit (m : Nat) (R : List Nat) (g j : Nat) : (downN m R g).testBit j = true ↔ (row R g).testBit j = false ∧ j < m ∧ ∀ h, h < R.length → row R h ≠ row R g → sub (row R g) (row R h) = true → (row R h).testBit j = true := by
  unfold downN
  rw [testBit_diff, Bool.and_eq_true, testBit_bey, testBit_full, decide_eq_true_iff, Bool.not_eq_true']
  exact and_comm
theorem up_bit (m : Nat) (R : List Nat) (g j : Nat) : (upN m R g).testBit j = true ↔ j < m ∧ (row R g).testBit j = false ∧ ∀ i, i < m → col R i ≠ col R j → sub (col R j) (col R i) = true → (row R g).testBit i = true := by
  unfold upN upQ
  rw [testBit_ofBits, Bool.and_eq_true, Bool.and_eq_true, decide_eq_true_iff, Bool.not_eq_true', sub_iff]
  refine and_congr_right fun hj => and_congr_right fun _ => ⟨fun h i hi h1 h2 => h i ?_, fun h i hi => ?_⟩
  · rw [testBit_ofBits, decide_eq_true hi, Bool.true_and]
    unfold upP
    rw [row_cols R hi, row_cols R hj, decide_eq_true h1, h2]; rfl
  · rw [testBit_ofBits, Bool.and_eq_true, decide_eq_true_iff] at hi
    obtain ⟨hi, hp⟩ := hi
    unfold upP at hp
    rw [row_cols R hi, row_cols R hj, Bool.and_eq_true, decide_eq_true_iff] at hp
    exact h i hi hp.1 hp.2
theorem bit_of_ne {a : Nat} (h : a ≠ 0) : ∃ i, a.testBit i = true := by
  refine Classical.byContradiction fun hn => h (Nat.eq_of_testBit_eq fun i => ?_)
  rw [Nat.zero_testBit]
  cases hi : a.testBit i with
  | false => rfl
  | true => exact absurd ⟨i, hi⟩ hn
theorem col_bit {R : List Nat} {g : Nat} (hg : g < R.length) (j : Nat) : (col R j).testBit g = (row R g).testBit j := by unfold col; rw [testBit_ofBits, decide_eq_true hg, Bool.true_and]
/-- from a down arrow on to a double one -/
theorem down_up (m : Nat) (R : List Nat) (g : Nat) : ∀ (d j : Nat), 2 ^ R.length ≤ col R j + d → (downN m R g).testBit j = true → ∃ i, (downN m R g).testBit i = true ∧ (upN m R g).testBit i = true := by
  intro d
  induction d with
  | zero => intro j h _; have := col_lt R j; omega
  | succ d ih =>
    intro j h hd
    by_cases hu : (upN m R g).testBit j = true
    · exact ⟨j, hd, hu⟩
    · have hD := (down_bit m R g j).1 hd
      have : ¬ ∀ i, i < m → col R i ≠ col R j → sub (col R j) (col R i) = true → (row R g).testBit i = true := fun h => hu ((up_bit m R g j).2 ⟨hD.2.1, hD.1, h⟩)
      simp only [Classical.not_forall] at this
      obtain ⟨i, hi, hne, hs, hr⟩ := this
      refine ih i ?_ ((down_bit m R g i).2 ⟨by simpa using hr, hi, fun x hx h1 h2 => ?_⟩)
      · have := sub_le hs; omega
      · rw [← col_bit hx]
        exact sub_iff.1 hs x (by rw [col_bit hx]; exact hD.2.2 x hx h1 h2)
theorem double_of_down {m : Nat} {R : List Nat} {g : Nat} (h : downN m R g ≠ 0) : downN m R g &&& upN m R g ≠ 0 := by
  obtain ⟨j, hj⟩ := bit_of_ne h
  obtain ⟨i, h1, h2⟩ := down_up m R g (2 ^ R.length) j (by omega) hj
  intro e
  have := congrArg (fun a => Nat.testBit a i) e
  simp only [Nat.testBit_and, h1, h2, Nat.zero_testBit] at this
  cases this
/-- an attribute is reducible exactly if no object has an up arrow to it -/
theorem red_attr {m : Nat} {R : List Nat} {j : Nat} (hj : j < m) : bey (cols m R) (col R j) (full R.length) = col R j ↔ ∀ g, g < R.length → (upN m R g).testBit j = false := by
  rw [bey_eq_iff (sub_full_of (col_lt R j))]
  constructor
  · intro h g hg
    rw [Bool.eq_false_iff]
    intro hu
    have hU := (up_bit m R g j).1 hu
    have := h g ((testBit_bey _ _ _ _).2 ⟨by rw [testBit_full, decide_eq_true_iff]; exact hg, fun i hi h1 h2 => by
      rw [cols_length] at hi
      rw [row_cols R hi] at h1 h2 ⊢
      rw [col_bit hg]
      exact hU.2.2 i hi h1 h2⟩)
    rw [col_bit hg, hU.2.1] at this
    cases this
  · intro h g hb
    obtain ⟨h0, h1⟩ := (testBit_bey _ _ _ _).1 hb
    rw [testBit_full, decide_eq_true_iff] at h0
    rw [col_bit h0]
    cases hr : (row R g).testBit j with
    | true => rfl
    | false =>
      refine absurd ((up_bit m R g j).2 ⟨hj, hr, fun i hi k1 k2 => ?_⟩) (by rw [h g h0]; decide)
      have := h1 i (by rw [cols_length]; exact hi) (by rw [row_cols R hi]; exact k1) (by rw [row_cols R hi]; exact k2)
      rw [row_cols R hi, col_bit h0] at this
      exact this
end Go.Proofs.Ytafnamchckehmaa.Pu
namespace Go.Proofs.Ytafnamchckehmaa.Pu
open Go.RowKit Go.Proofs.YtafnamchckehmaaW.PrintWords Go.Proofs.YtafnamchckehmaaW.PrintLast Go.Proofs.YtafnamchckehmaaW.PrintMore Go.Proofs.Ytafnamchckehmaa.Pr
def chrT (r d u j : Nat) : ByteArray := if r.testBit j = true then (⟨#[120]⟩ : ByteArray) else if (d &&& u).testBit j = true then (⟨#[42]⟩ : ByteArray) else if d.testBit j = true then (⟨#[118]⟩ : ByteArray) else if u.testBit j = true then (⟨#[94]⟩ : ByteArray) else (⟨#[46]⟩ : ByteArray)
def lineT (r d u : Nat) : Nat → ByteArray
  | 0 => (⟨#[]⟩ : ByteArray)
  | j + 1 => lineT r d u j ++ chrT r d u j
theorem chrT_size (r d u j : Nat) : (chrT r d u j).size = 1 := by
  unfold chrT
  repeat' split
  all_goals rfl
theorem lineT_size (r d u : Nat) : ∀ j, (lineT r d u j).size = j
  | 0 => rfl
  | j + 1 => by rw [lineT, ByteArray.size_append, lineT_size r d u j, chrT_size]
def arrL (m : Nat) (R : List Nat) (g : Nat) : List ByteArray := (List.range g).map fun g => lineT (row R g) (downN m R g) (upN m R g) m
theorem arrL_succ (m : Nat) (R : List Nat) (g : Nat) : arrL m R (g + 1) = arrL m R g ++ [lineT (row R g) (downN m R g) (upN m R g) m] := by
  unfold arrL
  rw [List.range_succ, List.map_append]
  rfl
theorem arrL_length (m : Nat) (R : List Nat) (g : Nat) : (arrL m R g).length = g := by unfold arrL; rw [List.length_map, List.length_range]
def arrV (n : Int) (l : List Int) : List ByteArray := if ctxB n l = true then arrL n.toNat (l.map Int.toNat) l.length else []
theorem arrV_length (n : Int) (l : List Int) : (arrV n l).length ≤ l.length := by
  unfold arrV
  split
  · rw [arrL_length]; exact Nat.le_refl _
  · exact Nat.zero_le _
theorem and_lt' {a b : Nat} (h : a < 256) : a &&& b < 256 := Nat.lt_of_le_of_lt Nat.and_le_left h
theorem arrS_inner {m : Nat} (hm : m ≤ 6) {R : List Nat} {g : Nat} (hg : g < R.length) {d u : Nat} (hr : row R g < 256) (hd : d < 256) (hu : u < 256) (out : List ByteArray) (ho : out.length ≤ 100) {res : List ByteArray}
    (h : Ev (fun k => spec_ArrowText.l0 k (out ++ [lineT (row R g) d u m]) (wrap64 ((g : Int) + 1)) (m : Int) (cast R)) res) :
    Ev (fun k => spec_ArrowText.l1 k out (g : Int) (⟨#[]⟩ : ByteArray) (d : Int) (u : Int) 0 (m : Int) (cast R)) res := by
  have hdu := and_lt' (b := u) hd
  have e : Go.bits .and .i64 (d : Int) (u : Int) = ((d &&& u : Nat) : Int) := and_nat (by omega) (by omega)
  refine ev_fold (g := fun k (a : ByteArray) i => spec_ArrowText.l1 k out (g : Int) a (d : Int) (u : Int) i (m : Int) (cast R)) (fun j _ => lineT (row R g) d u (j + 1)) (fun j a => a = lineT (row R g) d u j) (N := m) ?_ (fun i a hi h => rfl) m 0 _ (by omega) rfl ?_
  · intro j a hj ha h
    have hs : a.size + 1 ≤ 9223372036854775807 := by rw [ha, lineT_size]; omega
    rw [lineT, ← ha] at h
    refine Ev.step (fun k => ?_) h
    simp only [spec_ArrowText.l1]
    rw [if_pos (by omega), if_pos (by omega), if_pos (by rw [cast_length]; omega), rd_row, l2Has_val _ _ (by omega) (by omega), Option.bind_some, e, l2Has_val _ _ (by omega) (by omega), Option.bind_some, l2Has_val d _ (by omega) (by omega), Option.bind_some, l2Has_val u _ (by omega) (by omega), Option.bind_some, wrap_succ hj (by omega)]
    unfold chrT
    by_cases h1 : (row R g).testBit j = true
    · rw [if_pos h1, if_pos hs, if_pos h1]
    · rw [if_neg h1, if_neg h1]
      by_cases h2 : (d &&& u).testBit j = true
      · rw [if_pos h2, if_pos hs, if_pos h2]
      · rw [if_neg h2, if_neg h2]
        by_cases h3 : d.testBit j = true
        · rw [if_pos h3, if_pos hs, if_pos h3]
        · rw [if_neg h3, if_neg h3]
          by_cases h4 : u.testBit j = true
          · rw [if_pos h4, if_pos hs, if_pos h4]
          · rw [if_neg h4, if_pos hs, if_neg h4]
  · intro b _ hb
    rw [← hb] at h
    refine Ev.step (fun k => ?_) h
    simp only [spec_ArrowText.l1]
    rw [if_neg (by omega), if_pos (by omega)]
theorem arrS_val (n : Int) (l : List Int) (hl : l.length ≤ 1048576) : Ev (fun k => spec_ArrowText.f k n l) (arrV n l) := by
  unfold spec_ArrowText.f arrV
  simp only [Option.bind_some]
  refine Ev.bind (ctxS_val n l (by omega)) ?_
  cases hc : ctxB n l with
  | false => exact Ev.congr (fun k => by rw [if_neg (by decide)]; rfl) (Ev.now _)
  | true =>
    obtain ⟨m, R, rfl, hm, rfl, hR, hb⟩ := ctxB_nat hc
    have hrow := fun i => lt_256 (show m ≤ 8 by omega) (row_lt hb i)
    rw [if_pos rfl, uncast, Int.toNat_natCast, cast_length]
    refine Ev.congr (fun k => by rw [if_pos rfl]) ?_
    refine ev_fold (g := fun k (a : List ByteArray) i => spec_ArrowText.l0 k a i (m : Int) (cast R)) (fun g _ => arrL m R (g + 1)) (fun g a => a = arrL m R g) (N := R.length) ?_ (fun i a hi h => rfl) R.length 0 _ (by omega) rfl ?_
    · intro g a hg ha h
      have hal : a.length ≤ 8 := by rw [ha, arrL_length]; omega
      rw [arrL_succ, ← ha] at h
      refine Ev.step (f := fun k => (spec_l8Down.f k (m : Int) (cast R) (g : Int)).bind fun t => (spec_l8Up.f k (m : Int) (cast R) (g : Int)).bind fun u => spec_ArrowText.l1 k a (g : Int) (⟨#[]⟩ : ByteArray) t u 0 (m : Int) (cast R)) (fun k => ?_) ?_
      · simp only [spec_ArrowText.l0]
        rw [if_pos (by rw [cast_length]; omega)]
      · refine Ev.bind (l8Down_val m hm R hR hb g hg) ?_
        refine Ev.bind (l8Up_val hm hR hb hg) ?_
        refine arrS_inner hm hg (hrow g) (lt_256 (by omega) (downN_lt m R g)) (lt_256 (by omega) (upN_lt m R g)) a (by omega) ?_
        rw [wrap_succ hg (by omega)]
        exact h
    · intro b _ hb'
      refine Ev.step (f := fun _ => some b) (fun k => ?_) ?_
      · simp only [spec_ArrowText.l0]
        rw [if_neg (by rw [cast_length]; omega)]
      · rw [hb']; exact Ev.now _
theorem hasT_nat {c i : Nat} (hc : c < 256) (hi : i ≤ 7) : impl_HasElement.f (c : Int) (i : Int) = some (c.testBit i) := by
  rw [hasI_val]
  unfold hasV isAny
  rw [decide_eq_true (by omega), decide_eq_true (by omega)]
  simp
theorem arrI_inner {m : Nat} (hm : m ≤ 6) {R : List Nat} {g : Nat} {d u : Nat} (hr : row R g < 256) (hd : d < 256) (hu : u < 256) (out : List ByteArray) (ho : out.length ≤ 100) (N : Int) {res : List ByteArray}
    (h : Ev (fun k => impl_ArrowText.l0 k (out ++ [lineT (row R g) d u m]) (cast R) N (wrap64 ((g : Int) + 1)) (m : Int) (cast R)) res) :
    Ev (fun k => impl_ArrowText.l1 k out ((row R g : Nat) : Int) (d : Int) (u : Int) (⟨#[]⟩ : ByteArray) (cast R) N (g : Int) (m : Int) 0 (m : Int) (cast R)) res := by
  have hdu := and_lt' (b := u) hd
  have e : Go.bits .and .i64 (d : Int) (u : Int) = ((d &&& u : Nat) : Int) := and_nat (by omega) (by omega)
  refine ev_fold (g := fun k (a : ByteArray) i => impl_ArrowText.l1 k out ((row R g : Nat) : Int) (d : Int) (u : Int) a (cast R) N (g : Int) (m : Int) i (m : Int) (cast R)) (fun j _ => lineT (row R g) d u (j + 1)) (fun j a => a = lineT (row R g) d u j) (N := m) ?_ (fun i a hi h => rfl) m 0 _ (by omega) rfl ?_
  · intro j a hj ha h
    have hs : a.size + 1 ≤ 9223372036854775807 := by rw [ha, lineT_size]; omega
    rw [lineT, ← ha] at h
    refine Ev.step (fun k => ?_) h
    simp only [impl_ArrowText.l1]
    rw [if_pos (by omega), hasT_nat hr (by omega), Option.bind_some, e, hasT_nat hdu (by omega), Option.bind_some, hasT_nat hd (by omega), Option.bind_some, hasT_nat hu (by omega), Option.bind_some, wrap_succ hj (by omega)]
    unfold chrT
    by_cases h1 : (row R g).testBit j = true
    · rw [if_pos h1, if_pos hs, if_pos h1]
    · rw [if_neg h1, if_neg h1]
      by_cases h2 : (d &&& u).testBit j = true
      · rw [if_pos h2, if_pos hs, if_pos h2]
      · rw [if_neg h2, if_neg h2]
        by_cases h3 : d.testBit j = true
        · rw [if_pos h3, if_pos hs, if_pos h3]
        · rw [if_neg h3, if_neg h3]
          by_cases h4 : u.testBit j = true
          · rw [if_pos h4, if_pos hs, if_pos h4]
          · rw [if_neg h4, if_pos hs, if_neg h4]
  · intro b _ hb
    rw [← hb] at h
    refine Ev.step (fun k => ?_) h
    simp only [impl_ArrowText.l1]
    rw [if_neg (by omega), if_pos (by omega)]
theorem obj_mk {m : Nat} (hm : m ≤ 6) {R : List Nat} (hR : R.length ≤ 8) (hb : ∀ r ∈ R, r < 2 ^ m) {g : Nat} (hg : g < R.length) : objB (m : Int) (cast R) (g : Int) = true := by
  unfold objB
  rw [ctxB_mk hm hR hb, decide_eq_true (by rw [cast_length]; omega)]
  rfl
theorem arrI_val (n : Int) (l : List Int) (hl : l.length ≤ 1048576) : Ev (fun k => impl_ArrowText.f k n l) (arrV n l) := by
  unfold impl_ArrowText.f arrV
  rw [ctxI_val]
  simp only [Option.bind_some]
  cases hc : ctxB n l with
  | false => exact Ev.congr (fun k => by rw [if_neg (by decide)]; rfl) (Ev.now _)
  | true =>
    obtain ⟨m, R, rfl, hm, rfl, hR, hb⟩ := ctxB_nat hc
    have hrow := fun i => lt_256 (show m ≤ 8 by omega) (row_lt hb i)
    rw [if_pos rfl, uncast, Int.toNat_natCast, cast_length]
    refine Ev.congr (fun k => by rw [if_pos rfl]) ?_
    refine ev_fold (g := fun k (a : List ByteArray) i => impl_ArrowText.l0 k a (cast R) (R.length : Int) i (m : Int) (cast R)) (fun g _ => arrL m R (g + 1)) (fun g a => a = arrL m R g) (N := R.length) ?_ (fun i a hi h => rfl) R.length 0 _ (by omega) rfl ?_
    · intro g a hg ha h
      have hal : a.length ≤ 8 := by rw [ha, arrL_length]; omega
      have hD : downV (m : Int) (cast R) (g : Int) = ((downN m R g : Nat) : Int) := by unfold downV; rw [obj_mk hm hR hb hg, if_pos rfl, uncast, Int.toNat_natCast, Int.toNat_natCast]
      have hU : upV (m : Int) (cast R) (g : Int) = ((upN m R g : Nat) : Int) := by unfold upV; rw [obj_mk hm hR hb hg, if_pos rfl, uncast, Int.toNat_natCast, Int.toNat_natCast]
      have hDv := downI_val (m : Int) (cast R) (by rw [cast_length]; omega) (g : Int)
      have hUv := upI_val (m : Int) (cast R) (by rw [cast_length]; omega) (g : Int)
      rw [hD] at hDv
      rw [hU] at hUv
      rw [arrL_succ, ← ha] at h
      refine Ev.step (f := fun k => (impl_DownArrows.f k (m : Int) (cast R) (g : Int)).bind fun t => (impl_UpArrows.f (m : Int) (cast R) (g : Int)).bind fun u => impl_ArrowText.l1 k a ((row R g : Nat) : Int) t u (⟨#[]⟩ : ByteArray) (cast R) (R.length : Int) (g : Int) (m : Int) 0 (m : Int) (cast R)) (fun k => ?_) ?_
      · simp only [impl_ArrowText.l0]
        rw [if_pos (by omega), if_pos (by omega), if_pos (by rw [cast_length]; omega), rd_row]
      · refine Ev.bind hDv ?_
        refine Ev.bind hUv ?_
        refine arrI_inner hm (hrow g) (lt_256 (by omega) (downN_lt m R g)) (lt_256 (by omega) (upN_lt m R g)) a (by omega) (R.length : Int) ?_
        rw [wrap_succ hg (by omega)]
        exact h
    · intro b _ hb'
      refine Ev.step (f := fun _ => some b) (fun k => ?_) ?_
      · simp only [impl_ArrowText.l0]
        rw [if_neg (by omega)]
      · rw [hb']; exact Ev.now _
end Go.Proofs.Ytafnamchckehmaa.Pu
namespace Go.Proofs.Ytafnamchckehmaa.Pu
open Go.RowKit Go.Proofs.YtafnamchckehmaaW.PrintWords Go.Proofs.YtafnamchckehmaaW.PrintLast Go.Proofs.YtafnamchckehmaaW.PrintMore Go.Proofs.Ytafnamchckehmaa.Pr
theorem sameT_loop (l : List ByteArray) (hl : l.length ≤ 9223372036854775807) : ∀ (rest : List ByteArray) (i : Nat), l.drop i = rest → Ev (fun k => laws_sameTexts.l0 k l l (i : Int)) true := by
  intro rest
  induction rest with
  | nil =>
    intro i h
    have := drop_nil h
    refine Ev.step (f := fun _ => some true) (fun k => ?_) (Ev.now _)
    simp only [laws_sameTexts.l0]
    rw [if_neg (by omega)]
  | cons x rest ih =>
    intro i h
    obtain ⟨hi, hx, hd⟩ := drop_cons (d := ByteArray.empty) h
    refine Ev.step (fun k => ?_) (ih (i + 1) hd)
    simp only [laws_sameTexts.l0]
    rw [if_pos (by omega), if_pos (by omega), if_pos (by omega), wrap_succ hi hl]
    simp
theorem sameT_self (l : List ByteArray) (hl : l.length ≤ 9223372036854775807) : Ev (fun k => laws_sameTexts.f k l l) true := by
  unfold laws_sameTexts.f
  refine Ev.congr (fun k => by rw [if_pos rfl]) ?_
  exact sameT_loop l hl l 0 rfl
/-- the up arrows of the first objects, together -/
def upsN (m : Nat) (R : List Nat) (g a : Nat) : Nat := a ||| upN m R g
theorem ups_bit (m : Nat) (R : List Nat) (j : Nat) : ∀ (d i a : Nat), i + d = R.length → ((foldIdx (upsN m R) i R.length a).testBit j = true ↔ a.testBit j = true ∨ ∃ g, i ≤ g ∧ g < R.length ∧ (upN m R g).testBit j = true) := by
  intro d
  induction d with
  | zero =>
    intro i a h
    rw [foldIdx_end _ (by omega)]
    exact ⟨Or.inl, fun h' => h'.elim id fun ⟨g, h1, h2, _⟩ => by omega⟩
  | succ d ih =>
    intro i a h
    rw [foldIdx_step _ (by omega), ih (i + 1) _ (by omega)]
    unfold upsN
    rw [Nat.testBit_or, Bool.or_eq_true]
    constructor
    · rintro ((h1 | h1) | ⟨g, h1, h2, h3⟩)
      · exact Or.inl h1
      · exact Or.inr ⟨i, Nat.le_refl _, by omega, h1⟩
      · exact Or.inr ⟨g, by omega, h2, h3⟩
    · rintro (h1 | ⟨g, h1, h2, h3⟩)
      · exact Or.inl (Or.inl h1)
      · by_cases e : g = i
        · subst e; exact Or.inl (Or.inr h3)
        · exact Or.inr ⟨g, by omega, h2, h3⟩
theorem arrows_tail {m : Nat} {R : List Nat} (hc : ctxB (m : Int) (cast R) = true) (hm : m ≤ 6) (hR : R.length ≤ 8) (hb : ∀ r ∈ R, r < 2 ^ m) : Ev (fun k => laws_FnArrows.l0 k 0 0 (m : Int) (cast R)) true := by
  have hlen : (cast R).length ≤ 1048576 := by rw [cast_length]; omega
  have hobj : ∀ g, g < R.length → objB (m : Int) (cast R) (g : Int) = true := fun g hg => by unfold objB; rw [hc, cast_length]; simp; omega
  have hattr : ∀ j, j < m → attrB (m : Int) (cast R) (j : Int) = true := fun j hj => by unfold attrB; rw [hc]; simp; omega
  refine ev_fold (g := fun k (a : Nat) i => laws_FnArrows.l0 k (a : Int) i (m : Int) (cast R)) (upsN m R) (fun _ a => a < 2 ^ m) (N := R.length) ?_ (fun i a _ h => Nat.or_lt_two_pow h (upN_lt m R i)) R.length 0 0 (by omega) (Nat.two_pow_pos _) ?_
  · intro i a hi ha h
    have ho := hobj i hi
    have h1 := lt_256 (show m ≤ 8 by omega) ha
    have h2 := lt_256 (show m ≤ 8 by omega) (upN_lt m R i)
    have h3 := lt_256 (show m ≤ 8 by omega) (downN_lt m R i)
    have eu : upV (m : Int) (cast R) (i : Int) = ((upN m R i : Nat) : Int) := by unfold upV; rw [if_pos ho, Int.toNat_natCast, Int.toNat_natCast, uncast]
    have ed : downV (m : Int) (cast R) (i : Int) = ((downN m R i : Nat) : Int) := by unfold downV; rw [if_pos ho, Int.toNat_natCast, Int.toNat_natCast, uncast]
    have er : redObjV (m : Int) (cast R) (i : Int) = decide (downN m R i = 0) := by rw [redObj_nat hc hi, decide_eq_decide, down_zero hb]
    have ei : irrObjV (m : Int) (cast R) (i : Int) = !decide (downN m R i = 0) := by unfold irrObjV; rw [ho, er, Bool.true_and]
    have eb : dblV (m : Int) (cast R) (i : Int) = ((downN m R i &&& upN m R i : Nat) : Int) := by unfold dblV; rw [ed, eu, and_nat (by omega) (by omega)]
    have hI := irrObjI_val (m : Int) (cast R) hlen (i : Int)
    have hD := downI_val (m : Int) (cast R) hlen (i : Int)
    have hU := upI_val (m : Int) (cast R) hlen (i : Int)
    have hB := dblI_val (m : Int) (cast R) hlen (i : Int)
    rw [ei] at hI
    rw [ed] at hD
    rw [eu] at hU
    rw [eb] at hB
    refine Ev.step (f := fun k => (impl_UpArrows.f (m : Int) (cast R) (i : Int)).bind fun t411 => ((impl_IsIrreducibleObject.f k (m : Int) (cast R) (i : Int)).bind fun t412 => ((impl_DownArrows.f k (m : Int) (cast R) (i : Int)).bind fun t413 => (if (t412 != (t413 != 0)) = true then (some false) else ((impl_IsIrreducibleObject.f k (m : Int) (cast R) (i : Int)).bind fun t414 => (if t414 = true then ((impl_DoubleArrows.f k (m : Int) (cast R) (i : Int)).bind fun t415 => (if t415 = 0 then (some false) else (laws_FnArrows.l0 k (Go.bits .or .i64 (a : Int) t411) (((i + 1 : Nat) : Int)) (m : Int) (cast R)))) else (laws_FnArrows.l0 k (Go.bits .or .i64 (a : Int) t411) (((i + 1 : Nat) : Int)) (m : Int) (cast R)))))))) (fun k => ?_) ?_
    · simp only [laws_FnArrows.l0]
      rw [if_pos (by rw [cast_length]; omega), wrap_succ hi (by omega)]
    · refine Ev.bind hU ?_
      refine Ev.bind hI ?_
      refine Ev.bind hD ?_
      have hne : ((!decide (downN m R i = 0)) != (((downN m R i : Nat) : Int) != 0)) = false := by
        by_cases e : downN m R i = 0
        · rw [e]; rfl
        · rw [decide_eq_false e, show (((downN m R i : Nat) : Int) != 0) = true from bne_iff_ne.2 (by omega)]; rfl
      refine Ev.congr (fun k => by rw [hne, if_neg (by decide)]) ?_
      refine Ev.bind hI ?_
      have h' : Ev (fun k => laws_FnArrows.l0 k (Go.bits .or .i64 (a : Int) ((upN m R i : Nat) : Int)) (((i + 1 : Nat) : Int)) (m : Int) (cast R)) true := by
        rw [or_nat (by omega) (by omega)]
        exact h
      by_cases e : downN m R i = 0
      · refine Ev.congr (fun k => by rw [decide_eq_true e, if_neg (by decide)]) h'
      · refine Ev.congr (fun k => by rw [decide_eq_false e, if_pos (by decide)]) ?_
        refine Ev.bind hB ?_
        have := double_of_down e
        exact Ev.congr (fun k => by rw [if_neg (by omega)]) h'
  · intro b hb' hlt
    have hbits : ∀ j, b.testBit j = true ↔ ∃ g, g < R.length ∧ (upN m R g).testBit j = true := fun j => by
      rw [hb', ups_bit m R j R.length 0 0 (by omega), Nat.zero_testBit]
      constructor
      · rintro (h | ⟨g, _, h⟩)
        · cases h
        · exact ⟨g, h⟩
      · rintro ⟨g, h⟩
        exact Or.inr ⟨g, Nat.zero_le _, h⟩
    have h256 := lt_256 (show m ≤ 8 by omega) hlt
    refine Ev.step (f := fun k => laws_FnArrows.l1 k (b : Int) 0 (m : Int) (cast R)) (fun k => ?_) ?_
    · simp only [laws_FnArrows.l0]
      rw [if_neg (by rw [cast_length]; omega)]
    · refine ev_fold (g := fun k (_ : Unit) i => laws_FnArrows.l1 k (b : Int) i (m : Int) (cast R)) (fun _ a => a) (fun _ _ => True) (N := m) ?_ (fun _ _ _ _ => trivial) m 0 () (by omega) trivial ?_
      · intro j _ hj _ h
        have hI := irrAttrI_val (m : Int) (cast R) hlen (j : Int)
        have ea : irrAttrV (m : Int) (cast R) (j : Int) = b.testBit j := by
          unfold irrAttrV redAttrV
          rw [hattr j hj, Bool.true_and, Bool.true_and, Int.toNat_natCast, Int.toNat_natCast, uncast, cast_length, Bool.eq_iff_iff, hbits, Bool.not_eq_true', decide_eq_false_iff_not, red_attr hj]
          constructor
          · intro hn
            refine Classical.byContradiction fun hx => hn fun g hg => ?_
            rw [Bool.eq_false_iff]
            exact fun hu => hx ⟨g, hg, hu⟩
          · rintro ⟨g, hg, hu⟩ hn
            rw [hn g hg] at hu
            cases hu
        rw [ea] at hI
        refine Ev.step (f := fun k => (impl_IsIrreducibleAttribute.f k (m : Int) (cast R) (j : Int)).bind fun t416 => ((spec_HasElement.f (b : Int) (j : Int)).bind fun t417 => (if (t416 != t417) = true then (some false) else (laws_FnArrows.l1 k (b : Int) ((j + 1 : Nat) : Int) (m : Int) (cast R))))) (fun k => ?_) ?_
        · simp only [laws_FnArrows.l1]
          rw [if_pos (by omega), wrap_succ hj (by omega)]
        · refine Ev.bind hI ?_
          refine Ev.congr (fun k => ?_) h
          rw [hasS_val, Option.bind_some]
          have : hasV (b : Int) (j : Int) = b.testBit j := by
            unfold hasV
            rw [show isAny (b : Int) = true from decide_eq_true (by omega), decide_eq_true (show (0 : Int) ≤ (j : Int) ∧ (j : Int) ≤ 7 by omega)]
            simp
          rw [this]
          simp
      · intro _ _ _
        refine Ev.step (f := fun _ => some true) (fun k => ?_) (Ev.now _)
        simp only [laws_FnArrows.l1]
        rw [if_neg (by omega)]
theorem FnArrows (l0 : List Int) (_ : l0.length ≤ 9223372036854775807) (_ : ∀ x ∈ l0, (Lit.int .u8 x).wf = true) : ∃ k, laws_FnArrows.f k l0 = some true := by
  apply Ev.rounds
  unfold laws_FnArrows.f laws_big.f
  simp only [Option.bind_some]
  by_cases hbig : (l0.length : Int) > 1048576
  · exact Ev.congr (fun k => by rw [if_pos (decide_eq_true hbig)]) (Ev.now true)
  · have hb : l0.length ≤ 1048576 := by omega
    refine Ev.congr (fun k => by rw [if_neg (by simpa using hbig)]) ?_
    obtain ⟨⟨n, l, g⟩, e1, hl⟩ := col_ex l0 hb
    dsimp only at hl
    have hl : l.length ≤ 1048576 := by omega
    obtain ⟨h1, e2⟩ := new_ex l0 hb
    obtain ⟨⟨n2, l2, i2, h2⟩, e3, hl2, _, _⟩ := bent3_ex l0 hb 0 h1 (by decide)
    dsimp only at hl2
    have hl2 : l2.length ≤ 1048576 := by omega
    have d1 : Ev (fun k => spec_DrawDownArrows.f k l0) (n, l, g) := by unfold spec_DrawDownArrows.f; exact Ev.bind e1 (Ev.now _)
    have d2 : Ev (fun k => spec_DrawArrowText.f k l0) (n2, l2) := by unfold spec_DrawArrowText.f; exact Ev.bind e2 (Ev.bind e3 (Ev.now _))
    refine Ev.bind d1 ?_
    dsimp only
    refine Ev.bind (downI_val n l hl g) ?_
    refine Ev.bind (upI_val n l hl g) ?_
    refine Ev.bind d2 ?_
    dsimp only
    refine Ev.bind (downS_val n l hl g) ?_
    refine Ev.congr (fun k => by rw [if_pos rfl]) ?_
    refine Ev.bind (upS_val n l hl g) ?_
    refine Ev.congr (fun k => by rw [if_pos rfl]) ?_
    refine Ev.bind (dblI_val n l hl g) ?_
    refine Ev.congr (fun k => by rw [if_pos (show dblV n l g = Go.bits .and .i64 (downV n l g) (upV n l g) from rfl)]) ?_
    refine Ev.bind (arrI_val n2 l2 hl2) ?_
    refine Ev.bind (arrS_val n2 l2 hl2) ?_
    refine Ev.bind (sameT_self _ (by have := arrV_length n2 l2; omega)) ?_
    refine Ev.congr (fun k => by rw [if_pos rfl]) ?_
    refine Ev.bind (irrObjI_val n l hl g) ?_
    refine Ev.bind (irrObjS_val n l hl g) ?_
    refine Ev.congr (fun k => by rw [if_neg (by simp)]) ?_
    refine Ev.bind (irrAttrI_val n l hl g) ?_
    refine Ev.bind (irrAttrS_val n l hl g) ?_
    refine Ev.step (f := fun k => (spec_IsContext.f k n2 l2).bind fun t410 => (if t410 = true then (laws_FnArrows.l0 k 0 0 n2 l2) else (some true))) (fun k => ?_) ?_
    · simp only [laws_FnArrows.j0]
      rw [if_neg (by simp)]
    · refine Ev.bind (ctxS_val n2 l2 (by omega)) ?_
      cases hc : ctxB n2 l2 with
      | false => exact Ev.congr (fun k => by rw [if_neg (by decide)]) (Ev.now true)
      | true =>
        refine Ev.congr (fun k => by rw [if_pos rfl]) ?_
        obtain ⟨m, R, rfl, hm, rfl, hR, hbd⟩ := ctxB_nat hc
        exact arrows_tail hc hm hR hbd
end Go.Proofs.Ytafnamchckehmaa.Pu
