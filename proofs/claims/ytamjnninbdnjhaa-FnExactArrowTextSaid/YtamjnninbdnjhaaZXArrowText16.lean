/- What the law needs of the program's functions as plain functions, of the proofs that their calls answer so, and of plain laws: gathered by a program of this place (pack.py) out of its printed texts. No condition beyond what each statement says. -/
import Derived.Test.YtamjnninbdnjhaaZXArrowText5
import Derived.Test.YtamjnninbdnjhaaZXArrowText13
import Derived.Test.YtamjnninbdnjhaaZXArrowText14
import Derived.Test.YtamjnninbdnjhaaZXArrowText6
import Derived.Test.YtamjnninbdnjhaaZXArrowText12
import Derived.Test.YtamjnninbdnjhaaZXArrowText15
import Derived.Test.YtamjnninbdnjhaaZXArrowText8
namespace Go.Proofs.Ytamjnninbdnjhaa.Pu
open Go.RowKit Go.Proofs.YtamjnninbdnjhaaW.PrintWords Go.Proofs.YtamjnninbdnjhaaW.PrintLast Go.Proofs.YtamjnninbdnjhaaW.PrintMore Go.Proofs.Ytamjnninbdnjhaa.Pr
theorem upI_val (n : Int) (l : List Int) (hl : l.length ≤ 1048576) (g : Int) : Ev (fun _ => impl_UpArrows.f n l g) (upV n l g) := by
  unfold impl_UpArrows.f
  rw [if_pos hl]
  exact Ev.now _
def fitStep (K : List Nat) (s j i : Nat) (b : Bool) : Bool := b && (!upP K j i || s.testBit i)
theorem fold_fit (K : List Nat) (s j : Nat) {m : Nat} : ∀ (d i : Nat) (b : Bool), i + d = m → (foldIdx (fitStep K s j) i m b = true ↔ b = true ∧ ∀ q, i ≤ q → q < m → upP K j q = true → s.testBit q = true) := by
  intro d
  induction d with
  | zero =>
    intro i b h
    rw [foldIdx_end _ (by omega)]
    exact ⟨fun h => ⟨h, fun q h1 h2 => by omega⟩, fun h => h.1⟩
  | succ d ih =>
    intro i b h
    rw [foldIdx_step _ (show i < m by omega), ih (i + 1) _ (by omega)]
    unfold fitStep
    rw [Bool.and_eq_true]
    constructor
    · rintro ⟨⟨h1, h2⟩, h3⟩
      refine ⟨h1, fun q hq hm hp => ?_⟩
      by_cases e : q = i
      · subst e
        rw [hp] at h2
        simpa using h2
      · exact h3 q (by omega) hm hp
    · rintro ⟨h1, h2⟩
      refine ⟨⟨h1, ?_⟩, fun q hq hm hp => h2 q (by omega) hm hp⟩
      cases hp : upP K j i with
      | false => rfl
      | true => rw [h2 i (Nat.le_refl _) (by omega) hp]; rfl
theorem fold_upQ (K : List Nat) (s j m : Nat) : foldIdx (fitStep K s j) 0 m (!s.testBit j) = upQ K s m j := by
  unfold upQ
  rw [Bool.eq_iff_iff, fold_fit K s j m 0 _ (by omega), Bool.and_eq_true, sub_iff]
  refine and_congr_right fun _ => ⟨fun h i hi => ?_, fun h q _ hq hp => h q ?_⟩
  · rw [testBit_ofBits, Bool.and_eq_true, decide_eq_true_iff] at hi
    exact h i (Nat.zero_le _) hi.1 hi.2
  · rw [testBit_ofBits, decide_eq_true hq, hp]; rfl
theorem upN_lt (m : Nat) (R : List Nat) (g : Nat) : upN m R g < 2 ^ m := ofBits_lt _ _
theorem l8Up_val {m : Nat} (hm : m ≤ 6) {R : List Nat} (hR : R.length ≤ 8) (hb : ∀ r ∈ R, r < 2 ^ m) {g : Nat} (hg : g < R.length) : Ev (fun k => spec_l8Up.f k (m : Int) (cast R) (g : Int)) ((upN m R g : Nat) : Int) := by
  have hrow := fun i => lt_256 (show m ≤ 8 by omega) (row_lt hb i)
  have hcol := fun i => lt_256 hR (col_lt R i)
  unfold spec_l8Up.f
  refine ev_fold (g := fun k (a : Nat) i => spec_l8Up.l0 k (g : Int) (a : Int) i (m : Int) (cast R)) (bitStep (upQ (cols m R) (row R g) m)) (fun _ a => a < 2 ^ m) (N := m) ?_ (fun i a hi h => bitStep_lt hi h) m 0 0 (by omega) (Nat.two_pow_pos _) ?_
  · intro j a hj ha h
    have ha' := lt_256 (show m ≤ 8 by omega) ha
    refine Ev.step (f := fun k => (spec_l3Column.f k (m : Int) (cast R) (j : Int)).bind fun t => spec_l8Up.l1 k (g : Int) (a : Int) (j : Int) t (!(row R g).testBit j) 0 (m : Int) (cast R)) (fun k => ?_) ?_
    · simp only [spec_l8Up.l0]
      rw [if_pos (by omega)]
      simp only [if_pos (show (0 : Int) ≤ (g : Int) by omega), if_pos (show (g : Int) < ((cast R).length : Int) by rw [cast_length]; omega), rd_row, l2Has_val (row R g) j (by have := hrow g; omega) (by omega), Option.bind_some]
    · refine Ev.bind (colS_val R hR hrow _ j (by omega)) ?_
      refine ev_fold (g := fun k (b : Bool) i => spec_l8Up.l1 k (g : Int) (a : Int) (j : Int) ((col R j : Nat) : Int) b i (m : Int) (cast R)) (fitStep (cols m R) (row R g) j) (fun _ _ => True) (N := m) ?_ (fun _ _ _ _ => trivial) m 0 _ (by omega) trivial ?_
      · intro i b hi _ h
        refine Ev.step (f := fun k => (spec_l3Column.f k (m : Int) (cast R) (i : Int)).bind fun t => if b = true then (if t = ((col R j : Nat) : Int) then spec_l8Up.l1 k (g : Int) (a : Int) (j : Int) ((col R j : Nat) : Int) true ((i + 1 : Nat) : Int) (m : Int) (cast R) else if Go.bits .and .i64 t ((col R j : Nat) : Int) = ((col R j : Nat) : Int) then (spec_l2Has.f t (g : Int)).bind fun u => spec_l8Up.l1 k (g : Int) (a : Int) (j : Int) ((col R j : Nat) : Int) u ((i + 1 : Nat) : Int) (m : Int) (cast R) else spec_l8Up.l1 k (g : Int) (a : Int) (j : Int) ((col R j : Nat) : Int) true ((i + 1 : Nat) : Int) (m : Int) (cast R)) else spec_l8Up.l1 k (g : Int) (a : Int) (j : Int) ((col R j : Nat) : Int) false ((i + 1 : Nat) : Int) (m : Int) (cast R)) (fun k => ?_) ?_
        · simp only [spec_l8Up.l1]
          rw [if_pos (by omega), wrap_succ hi (by omega)]
        · refine Ev.bind (colS_val R hR hrow _ i (by omega)) ?_
          cases b with
          | false => exact Ev.congr (fun k => by rw [if_neg (by decide)]; rfl) h
          | true =>
            unfold fitStep upP at h
            rw [row_cols R hi, row_cols R hj, Bool.true_and] at h
            by_cases h1 : col R i = col R j
            · rw [show (!(decide (col R i ≠ col R j) && sub (col R j) (col R i)) || (row R g).testBit i) = true from by rw [decide_eq_false (fun h => h h1)]; rfl] at h
              exact Ev.congr (fun k => by rw [if_pos rfl, if_pos (by rw [h1])]) h
            · rw [decide_eq_true h1, Bool.true_and] at h
              by_cases h2 : sub (col R j) (col R i) = true
              · rw [h2, Bool.not_true, Bool.false_or] at h
                refine Ev.congr (fun k => by rw [if_pos rfl, if_neg (by omega), if_pos ((and_is (hcol j) (hcol i)).2 h2), l2Has_val _ _ (by have := hcol i; omega) (by omega), Option.bind_some, show (col R i).testBit g = (row R g).testBit i from by unfold col; rw [testBit_ofBits, decide_eq_true hg, Bool.true_and]]) h
              · rw [Bool.eq_false_iff.2 h2, Bool.not_false, Bool.true_or] at h
                exact Ev.congr (fun k => by rw [if_pos rfl, if_neg (by omega), if_neg (fun h => h2 ((and_is (hcol j) (hcol i)).1 h))]) h
      · intro b hb' _
        rw [fold_upQ] at hb'
        refine Ev.step (fun k => ?_) h
        simp only [spec_l8Up.l1]
        rw [if_neg (by omega), wrap_succ hj (by omega), wrapU_small _ (by omega) (by omega), or_bit ha' (by omega)]
        unfold bitStep
        rw [← hb']
        by_cases h1 : b = true
        · rw [if_pos h1, if_pos (by omega), if_pos h1]
        · rw [if_neg h1, if_neg h1]
  · intro b hb' _
    refine Ev.step (f := fun _ => some (b : Int)) (fun k => ?_) ?_
    · simp only [spec_l8Up.l0]
      rw [if_neg (by omega)]
    · rw [hb', fold_bits]; exact Ev.now _
end Go.Proofs.Ytamjnninbdnjhaa.Pu
namespace Go.Proofs.Ytamjnninbdnjhaa.Pu
open Go.RowKit Go.Proofs.YtamjnninbdnjhaaW.PrintWords Go.Proofs.YtamjnninbdnjhaaW.PrintLast Go.Proofs.YtamjnninbdnjhaaW.PrintMore Go.Proofs.Ytamjnninbdnjhaa.Pr
def chrT (r d u j : Nat) : ByteArray := if r.testBit j = true then (⟨#[120]⟩ : ByteArray) else if (d &&& u).testBit j = true then (⟨#[42]⟩ : ByteArray) else if d.testBit j = true then (⟨#[118]⟩ : ByteArray) else if u.testBit j = true then (⟨#[94]⟩ : ByteArray) else (⟨#[46]⟩ : ByteArray)
def lineT (r d u : Nat) : Nat → ByteArray
  | 0 => (⟨#[]⟩ : ByteArray)
  | j + 1 => lineT r d u j ++ chrT r d u j
theorem chrT_size (r d u j : Nat) : (chrT r d u j).size = 1 := by
  unfold chrT
  repeat' split
  all_goals rfl
theorem lineT_size (r d u : Nat) : ∀ j, (lineT r d u j).size = j
  | 0 => rfl
  | j + 1 => by rw [lineT, ByteArray.size_append, lineT_size r d u j, chrT_size]
def arrL (m : Nat) (R : List Nat) (g : Nat) : List ByteArray := (List.range g).map fun g => lineT (row R g) (downN m R g) (upN m R g) m
theorem arrL_succ (m : Nat) (R : List Nat) (g : Nat) : arrL m R (g + 1) = arrL m R g ++ [lineT (row R g) (downN m R g) (upN m R g) m] := by
  unfold arrL
  rw [List.range_succ, List.map_append]
  rfl
theorem arrL_length (m : Nat) (R : List Nat) (g : Nat) : (arrL m R g).length = g := by unfold arrL; rw [List.length_map, List.length_range]
def arrV (n : Int) (l : List Int) : List ByteArray := if ctxB n l = true then arrL n.toNat (l.map Int.toNat) l.length else []
theorem arrV_length (n : Int) (l : List Int) : (arrV n l).length ≤ l.length := by
  unfold arrV
  split
  · rw [arrL_length]; exact Nat.le_refl _
  · exact Nat.zero_le _
theorem and_lt' {a b : Nat} (h : a < 256) : a &&& b < 256 := Nat.lt_of_le_of_lt Nat.and_le_left h
theorem arrS_inner {m : Nat} (hm : m ≤ 6) {R : List Nat} {g : Nat} (hg : g < R.length) {d u : Nat} (hr : row R g < 256) (hd : d < 256) (hu : u < 256) (out : List ByteArray) (ho : out.length ≤ 100) {res : List ByteArray}
    (h : Ev (fun k => spec_ArrowText.l0 k (out ++ [lineT (row R g) d u m]) (wrap64 ((g : Int) + 1)) (m : Int) (cast R)) res) :
    Ev (fun k => spec_ArrowText.l1 k out (g : Int) (⟨#[]⟩ : ByteArray) (d : Int) (u : Int) 0 (m : Int) (cast R)) res := by
  have hdu := and_lt' (b := u) hd
  have e : Go.bits .and .i64 (d : Int) (u : Int) = ((d &&& u : Nat) : Int) := and_nat (by omega) (by omega)
  refine ev_fold (g := fun k (a : ByteArray) i => spec_ArrowText.l1 k out (g : Int) a (d : Int) (u : Int) i (m : Int) (cast R)) (fun j _ => lineT (row R g) d u (j + 1)) (fun j a => a = lineT (row R g) d u j) (N := m) ?_ (fun i a hi h => rfl) m 0 _ (by omega) rfl ?_
  · intro j a hj ha h
    have hs : a.size + 1 ≤ 9223372036854775807 := by rw [ha, lineT_size]; omega
    rw [lineT, ← ha] at h
    refine Ev.step (fun k => ?_) h
    simp only [spec_ArrowText.l1]
    rw [if_pos (by omega), if_pos (by omega), if_pos (by rw [cast_length]; omega), rd_row, l2Has_val _ _ (by omega) (by omega), Option.bind_some, e, l2Has_val _ _ (by omega) (by omega), Option.bind_some, l2Has_val d _ (by omega) (by omega), Option.bind_some, l2Has_val u _ (by omega) (by omega), Option.bind_some, wrap_succ hj (by omega)]
    unfold chrT
    by_cases h1 : (row R g).testBit j = true
    · rw [if_pos h1, if_pos hs, if_pos h1]
    · rw [if_neg h1, if_neg h1]
      by_cases h2 : (d &&& u).testBit j = true
      · rw [if_pos h2, if_pos hs, if_pos h2]
      · rw [if_neg h2, if_neg h2]
        by_cases h3 : d.testBit j = true
        · rw [if_pos h3, if_pos hs, if_pos h3]
        · rw [if_neg h3, if_neg h3]
          by_cases h4 : u.testBit j = true
          · rw [if_pos h4, if_pos hs, if_pos h4]
          · rw [if_neg h4, if_pos hs, if_neg h4]
  · intro b _ hb
    rw [← hb] at h
    refine Ev.step (fun k => ?_) h
    simp only [spec_ArrowText.l1]
    rw [if_neg (by omega), if_pos (by omega)]
theorem arrS_val (n : Int) (l : List Int) (hl : l.length ≤ 1048576) : Ev (fun k => spec_ArrowText.f k n l) (arrV n l) := by
  unfold spec_ArrowText.f arrV
  simp only [Option.bind_some]
  refine Ev.bind (ctxS_val n l (by omega)) ?_
  cases hc : ctxB n l with
  | false => exact Ev.congr (fun k => by rw [if_neg (by decide)]; rfl) (Ev.now _)
  | true =>
    obtain ⟨m, R, rfl, hm, rfl, hR, hb⟩ := ctxB_nat hc
    have hrow := fun i => lt_256 (show m ≤ 8 by omega) (row_lt hb i)
    rw [if_pos rfl, uncast, Int.toNat_natCast, cast_length]
    refine Ev.congr (fun k => by rw [if_pos rfl]) ?_
    refine ev_fold (g := fun k (a : List ByteArray) i => spec_ArrowText.l0 k a i (m : Int) (cast R)) (fun g _ => arrL m R (g + 1)) (fun g a => a = arrL m R g) (N := R.length) ?_ (fun i a hi h => rfl) R.length 0 _ (by omega) rfl ?_
    · intro g a hg ha h
      have hal : a.length ≤ 8 := by rw [ha, arrL_length]; omega
      rw [arrL_succ, ← ha] at h
      refine Ev.step (f := fun k => (spec_l8Down.f k (m : Int) (cast R) (g : Int)).bind fun t => (spec_l8Up.f k (m : Int) (cast R) (g : Int)).bind fun u => spec_ArrowText.l1 k a (g : Int) (⟨#[]⟩ : ByteArray) t u 0 (m : Int) (cast R)) (fun k => ?_) ?_
      · simp only [spec_ArrowText.l0]
        rw [if_pos (by rw [cast_length]; omega)]
      · refine Ev.bind (l8Down_val m hm R hR hb g hg) ?_
        refine Ev.bind (l8Up_val hm hR hb hg) ?_
        refine arrS_inner hm hg (hrow g) (lt_256 (by omega) (downN_lt m R g)) (lt_256 (by omega) (upN_lt m R g)) a (by omega) ?_
        rw [wrap_succ hg (by omega)]
        exact h
    · intro b _ hb'
      refine Ev.step (f := fun _ => some b) (fun k => ?_) ?_
      · simp only [spec_ArrowText.l0]
        rw [if_neg (by rw [cast_length]; omega)]
      · rw [hb']; exact Ev.now _
theorem hasT_nat {c i : Nat} (hc : c < 256) (hi : i ≤ 7) : impl_HasElement.f (c : Int) (i : Int) = some (c.testBit i) := by
  rw [hasI_val]
  unfold hasV isAny
  rw [decide_eq_true (by omega), decide_eq_true (by omega)]
  simp
theorem arrI_inner {m : Nat} (hm : m ≤ 6) {R : List Nat} {g : Nat} {d u : Nat} (hr : row R g < 256) (hd : d < 256) (hu : u < 256) (out : List ByteArray) (ho : out.length ≤ 100) (N : Int) {res : List ByteArray}
    (h : Ev (fun k => impl_ArrowText.l0 k (out ++ [lineT (row R g) d u m]) (cast R) N (wrap64 ((g : Int) + 1)) (m : Int) (cast R)) res) :
    Ev (fun k => impl_ArrowText.l1 k out ((row R g : Nat) : Int) (d : Int) (u : Int) (⟨#[]⟩ : ByteArray) (cast R) N (g : Int) (m : Int) 0 (m : Int) (cast R)) res := by
  have hdu := and_lt' (b := u) hd
  have e : Go.bits .and .i64 (d : Int) (u : Int) = ((d &&& u : Nat) : Int) := and_nat (by omega) (by omega)
  refine ev_fold (g := fun k (a : ByteArray) i => impl_ArrowText.l1 k out ((row R g : Nat) : Int) (d : Int) (u : Int) a (cast R) N (g : Int) (m : Int) i (m : Int) (cast R)) (fun j _ => lineT (row R g) d u (j + 1)) (fun j a => a = lineT (row R g) d u j) (N := m) ?_ (fun i a hi h => rfl) m 0 _ (by omega) rfl ?_
  · intro j a hj ha h
    have hs : a.size + 1 ≤ 9223372036854775807 := by rw [ha, lineT_size]; omega
    rw [lineT, ← ha] at h
    refine Ev.step (fun k => ?_) h
    simp only [impl_ArrowText.l1]
    rw [if_pos (by omega), hasT_nat hr (by omega), Option.bind_some, e, hasT_nat hdu (by omega), Option.bind_some, hasT_nat hd (by omega), Option.bind_some, hasT_nat hu (by omega), Option.bind_some, wrap_succ hj (by omega)]
    unfold chrT
    by_cases h1 : (row R g).testBit j = true
    · rw [if_pos h1, if_pos hs, if_pos h1]
    · rw [if_neg h1, if_neg h1]
      by_cases h2 : (d &&& u).testBit j = true
      · rw [if_pos h2, if_pos hs, if_pos h2]
      · rw [if_neg h2, if_neg h2]
        by_cases h3 : d.testBit j = true
        · rw [if_pos h3, if_pos hs, if_pos h3]
        · rw [if_neg h3, if_neg h3]
          by_cases h4 : u.testBit j = true
          · rw [if_pos h4, if_pos hs, if_pos h4]
          · rw [if_neg h4, if_pos hs, if_neg h4]
  · intro b _ hb
    rw [← hb] at h
    refine Ev.step (fun k => ?_) h
    simp only [impl_ArrowText.l1]
    rw [if_neg (by omega), if_pos (by omega)]
theorem obj_mk {m : Nat} (hm : m ≤ 6) {R : List Nat} (hR : R.length ≤ 8) (hb : ∀ r ∈ R, r < 2 ^ m) {g : Nat} (hg : g < R.length) : objB (m : Int) (cast R) (g : Int) = true := by
  unfold objB
  rw [ctxB_mk hm hR hb, decide_eq_true (by rw [cast_length]; omega)]
  rfl
theorem arrI_val (n : Int) (l : List Int) (hl : l.length ≤ 1048576) : Ev (fun k => impl_ArrowText.f k n l) (arrV n l) := by
  unfold impl_ArrowText.f arrV
  rw [ctxI_val]
  simp only [Option.bind_some]
  cases hc : ctxB n l with
  | false => exact Ev.congr (fun k => by rw [if_neg (by decide)]; rfl) (Ev.now _)
  | true =>
    obtain ⟨m, R, rfl, hm, rfl, hR, hb⟩ := ctxB_nat hc
    have hrow := fun i => lt_256 (show m ≤ 8 by omega) (row_lt hb i)
    rw [if_pos rfl, uncast, Int.toNat_natCast, cast_length]
    refine Ev.congr (fun k => by rw [if_pos rfl]) ?_
    refine ev_fold (g := fun k (a : List ByteArray) i => impl_ArrowText.l0 k a (cast R) (R.length : Int) i (m : Int) (cast R)) (fun g _ => arrL m R (g + 1)) (fun g a => a = arrL m R g) (N := R.length) ?_ (fun i a hi h => rfl) R.length 0 _ (by omega) rfl ?_
    · intro g a hg ha h
      have hal : a.length ≤ 8 := by rw [ha, arrL_length]; omega
      have hD : downV (m : Int) (cast R) (g : Int) = ((downN m R g : Nat) : Int) := by unfold downV; rw [obj_mk hm hR hb hg, if_pos rfl, uncast, Int.toNat_natCast, Int.toNat_natCast]
      have hU : upV (m : Int) (cast R) (g : Int) = ((upN m R g : Nat) : Int) := by unfold upV; rw [obj_mk hm hR hb hg, if_pos rfl, uncast, Int.toNat_natCast, Int.toNat_natCast]
      have hDv := downI_val (m : Int) (cast R) (by rw [cast_length]; omega) (g : Int)
      have hUv := upI_val (m : Int) (cast R) (by rw [cast_length]; omega) (g : Int)
      rw [hD] at hDv
      rw [hU] at hUv
      rw [arrL_succ, ← ha] at h
      refine Ev.step (f := fun k => (impl_DownArrows.f k (m : Int) (cast R) (g : Int)).bind fun t => (impl_UpArrows.f (m : Int) (cast R) (g : Int)).bind fun u => impl_ArrowText.l1 k a ((row R g : Nat) : Int) t u (⟨#[]⟩ : ByteArray) (cast R) (R.length : Int) (g : Int) (m : Int) 0 (m : Int) (cast R)) (fun k => ?_) ?_
      · simp only [impl_ArrowText.l0]
        rw [if_pos (by omega), if_pos (by omega), if_pos (by rw [cast_length]; omega), rd_row]
      · refine Ev.bind hDv ?_
        refine Ev.bind hUv ?_
        refine arrI_inner hm (hrow g) (lt_256 (by omega) (downN_lt m R g)) (lt_256 (by omega) (upN_lt m R g)) a (by omega) (R.length : Int) ?_
        rw [wrap_succ hg (by omega)]
        exact h
    · intro b _ hb'
      refine Ev.step (f := fun _ => some b) (fun k => ?_) ?_
      · simp only [impl_ArrowText.l0]
        rw [if_neg (by omega)]
      · rw [hb']; exact Ev.now _
end Go.Proofs.Ytamjnninbdnjhaa.Pu
namespace Go.Proofs.Ytamjnninbdnjhaa.Pu
open Go.RowKit Go.Proofs.YtamjnninbdnjhaaW.PrintWords Go.Proofs.YtamjnninbdnjhaaW.PrintLast Go.Proofs.YtamjnninbdnjhaaW.PrintMore Go.Proofs.Ytamjnninbdnjhaa.Pr
theorem FnExactArrowText (x0 : S26) (_ : (Lit.int .i64 x0.f0).wf = true ∧ ∀ x ∈ x0.f1, (Lit.int .i64 x).wf = true) (hl : x0.f1.length ≤ 9223372036854775807) : ∃ k, laws_FnExactArrowText.f k x0.f0 x0.f1 = some true := by
  apply Ev.rounds
  unfold laws_FnExactArrowText.f
  obtain ⟨m, hm, hm2⟩ := szC_val x0.f0 x0.f1 hl
  rw [hm]
  simp only [Option.bind_some]
  by_cases h : m < 0
  · exact Ev.congr (fun k => by rw [if_pos h]) (Ev.now true)
  · have hle := hm2 (by omega)
    have hS := arrS_val x0.f0 x0.f1 hle
    have hI := arrI_val x0.f0 x0.f1 hle
    have hV := arrV_length x0.f0 x0.f1
    generalize arrV x0.f0 x0.f1 = q at hS hI hV
    refine Ev.congr (fun k => by rw [if_neg h]) ?_
    refine Ev.bind (toC_val _ _ hle) ?_
    refine Ev.bind hS ?_
    refine Ev.bind (toC_val _ _ hle) ?_
    refine Ev.bind hI ?_
    refine Ev.bind (eqT_self q (by omega)) ?_
    refine Ev.congr (fun k => by rw [if_pos rfl]) ?_
    refine Ev.bind (toC_val _ _ hle) ?_
    refine Ev.bind (eqC_self x0.f0 x0.f1 hl) ?_
    refine Ev.congr (fun k => by rw [if_pos rfl]) ?_
    refine Ev.bind (markC_val x0.f0 x0.f1 hle) ?_
    refine Ev.congr (fun k => by rw [if_neg (markC_pos _)]) ?_
    refine Ev.bind (eqT_self q (by omega)) ?_
    refine Ev.step (fun k => by simp only [laws_FnExactArrowText.j0]; rw [if_neg (by decide)]) ?_
    refine Ev.bind (markT_val q (by omega)) ?_
    refine Ev.bind (heldT_val q (by omega)) ?_
    refine Ev.congr (fun k => by rw [if_neg (markT_pos _), if_pos rfl]) ?_
    refine Ev.bind (toC_val _ _ hle) ?_
    refine Ev.bind hI ?_
    refine Ev.bind (eqT_self q (by omega)) ?_
    refine Ev.congr (fun k => by rw [if_pos rfl]) ?_
    refine Ev.bind (heldT_val q (by omega)) ?_
    exact Ev.congr (fun k => by rw [if_neg (markT_pos _), if_pos rfl]) (Ev.now true)
end Go.Proofs.Ytamjnninbdnjhaa.Pu
