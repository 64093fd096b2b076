/- What the law needs of the program's functions as plain functions, of the proofs that their calls answer so, and of plain laws: gathered by a program of this place (pack.py) out of its printed texts. No condition beyond what each statement says. -/
import Derived.Test.YtbflblmkdnhboaaGreatDoorZXIsBase2
import Derived.Test.YtbflblmkdnhboaaGreatDoorZXIsBase3
import Derived.Test.YtbflblmkdnhboaaGreatDoorZXIsBase5
namespace Go.Proofs.YtbflblmkdnhboaaGreatDoor.Pr
open Go.RowKit Go.Proofs.YtbflblmkdnhboaaGreatDoorW.PrintWords Go.Proofs.YtbflblmkdnhboaaGreatDoorW.PrintLast Go.Proofs.YtbflblmkdnhboaaGreatDoorW.PrintMore
attribute [local go_sem] max2_int min2_int max_two min_two max_three min_three max_four min_four   -- for this text's walks alone
set_option linter.unusedVariables false
set_option linter.unusedSimpArgs false
theorem bnd4_ {α β : Type} {o : Option α} {f : α → Option β} {r : β} (h : o.bind f = some r) : ∃ a, Aside0 (o = some a) ∧ f a = some r := by
 obtain ⟨a, h1, h2⟩ := Option.bind_eq_some_iff.mp h
 exact ⟨a, ⟨h1⟩, h2⟩
theorem put4_ {P : Prop} (h : P := by simp only [Act.put, List.setIfInBounds_toArray, List.set_cons_zero, List.set_cons_succ, i64_w, i32_w]; rfl) : P := h
theorem q4_1 {P : Prop} (h : P := by repeat (first | exact (Kd.C_below HR0_1.out (by repeat (first | (with_reducible first | exact HB.out | apply below_alloc | apply pw_below_drewN | apply below_drew1 | refine below_set ?_ GE193.out) | exact HB.out))) | (with_reducible refine Kd.C_alloc ?_ _) | (with_reducible refine Kd.C_drewN ?_ _) | (with_reducible refine Kd.C_drew ?_))) : P := h
theorem q4_2 {P : Prop} (h : P := by repeat (first | exact (Kd.C_below HR0_1.out HB.out) | (with_reducible refine Kd.C_alloc ?_ _) | (with_reducible refine Kd.C_drewN ?_ _) | (with_reducible refine Kd.C_drew ?_))) : P := h
theorem q4_3 {P : Prop} (h : P := by repeat (first | (with_reducible first | exact HB.out | apply below_alloc | apply pw_below_drewN | apply below_drew1 | refine below_set ?_ GE193.out) | exact HB.out)) : P := h
theorem q4_4 {P : Prop} (h : P := by (try simp only [List.map_toArray, List.map_cons, List.map_nil]); first | done | rfl | (simp only [List.length_drop, List.length_take]; rfl)) : P := h
theorem q4_5 {P : Prop} (h : P := by repeat (first | (with_reducible first | exact HB.out | apply below_alloc | apply pw_below_drewN | apply below_drew1) | exact HB.out)) : P := h
theorem q4_6 {P : Prop} (h : P := by (with_reducible repeat (first | refine blk_drewN ?_ _ | refine blk_drew ?_ | refine blk_alloc ?_ _)); exact BK193.out) : P := h
theorem q4_7 {P : Prop} (h : P := by (with_reducible repeat (first | apply Kd.R_alloc | apply Kd.R_drewN | apply Kd.R_drew)); exact HO_3.out) : P := h
theorem q4_8 {P : Prop} (h : P := by first | rfl | (simp; done) | (simp [*]; done) | (simp [i64_w, i32_w]; done)) : P := h
theorem q4_9 {P : Prop} (h : P := by first | (with_reducible assumption) | assumption) : P := h
theorem q4_10 {P : Prop} (h : P := by kernel_rfl) : P := h
mutual
def spec_l10Pseudo.l0 : Nat → List Int → Int → Int → List Int → Option (List Int)
 | 0, _, _, _, _ => none
 | k + 1, x3, x4, x194000, x194001 => (spec_FullSet.f x194000).bind fun t197 => (if x4 ≤ t197 then ((spec_l4Closure.f k x194000 x194001 x4).bind fun t201 => (if t201 = x4 then (spec_l10Pseudo.l0 k x3 (wrap64 (x4 + 1)) x194000 x194001) else (spec_l10Pseudo.l1 k x3 x4 true 0 x194000 x194001))) else ((spec_SortLectic.f k x3).bind fun t198 => (some t198)))
def spec_l10Pseudo.l1 : Nat → List Int → Int → Bool → Int → Int → List Int → Option (List Int)
 | 0, _, _, _, _, _, _ => none
 | k + 1, x3, x4, x5, x6, x194000, x194001 => if x6 < (x3.length : Int) then (if x5 = true then (if 0 ≤ x6 then (if (Go.bits .and .i64 (rd x3 x6) x4) = (rd x3 x6) then ((spec_l4Closure.f k x194000 x194001 (rd x3 x6)).bind fun t205 => ((spec_l4Closure.f k x194000 x194001 (rd x3 x6)).bind fun t207 => (spec_l10Pseudo.l1 k x3 x4 ((Go.bits .and .i64 t205 x4) == t207) (wrap64 (x6 + 1)) x194000 x194001))) else (spec_l10Pseudo.l1 k x3 x4 true (wrap64 (x6 + 1)) x194000 x194001)) else (none)) else (spec_l10Pseudo.l1 k x3 x4 false (wrap64 (x6 + 1)) x194000 x194001)) else (if x5 = true then (if x3.length < 17592186044416 then (spec_l10Pseudo.l0 k (x3 ++ [x4]) (wrap64 (x4 + 1)) x194000 x194001) else (none)) else (spec_l10Pseudo.l0 k x3 (wrap64 (x4 + 1)) x194000 x194001))
end
def spec_l10Pseudo.f (k : Nat) (a0_0 : Int) (l0_1 : List Int) : Option (List Int) := spec_l10Pseudo.l0 k (([] : List Int)) 0 a0_0 l0_1
def spec_l10Pseudo.T10 : Bool × List (List Nat × List Nat) := (true, [([], []), ([0], [0]), ([1], [1]), ([1], [1]), ([2, 3, 1], [1, 2, 3]), ([4, 1], [1, 4]), ([1], [1]), ([5, 6, 1], [1, 5, 6]), ([1], [1]), ([1], [1]), ([8, 9, 1], [1, 8, 9]), ([10, 1], [1, 10]), ([7, 11, 1], [1, 7, 11]), ([12, 1, 1], [1, 12]), ([13], [13]), ([13], [13]), ([13], [13]), ([15, 16, 13], [13, 15, 16]), ([17, 13], [13, 17]), ([14, 18, 13, 13], [13, 14, 18]), ([13], [13]), ([19, 20, 13], [13, 19, 20]), ([13], [13]), ([13], [13]), ([13], [13]), ([23, 24, 13], [13, 23, 24]), ([25, 13], [13, 25]), ([22, 26, 19, 13], [13, 22, 26]), ([21, 27, 13], [13, 21, 27]), ([13, 28, 1], [1, 13, 28]), ([1, 29], [1, 29]), ([30, 27, 0, 1, 2, 3, 4, 5, 6, 7, 8, 9, 10, 11, 12, 13, 14, 15, 16, 17, 18, 19, 20, 21, 22, 23, 24, 25, 26, 27, 28, 29, 30], [0, 30])])
def spec_l10Pseudo.B10 : List Nat := [0, 1, 3, 3, 15, 31, 3, 127, 3, 3, 771, 1795, 4095, 8191, 16383, 16383, 16383, 114687, 245759, 524287, 16383, 2097151, 16383, 16383, 16383, 25182207, 58736639, 131071999, 268435455, 536870911, 1073741823, 2147483647]
theorem spec_l10Pseudo.tab10 : rtab .any (opsOf Tryz.f32 10) = spec_l10Pseudo.T10 := q4_10
theorem spec_l10Pseudo.bits10 : waitsOk spec_l10Pseudo.T10.2 spec_l10Pseudo.B10 = true := q4_10
set_option maxHeartbeats 8000000 in
set_option maxRecDepth 100000 in
theorem spec_l10Pseudo.calls (k : Nat) (a0_0 : Int) (A0_1 : Option Addr) (c0_1 : Nat) (l0_1 : List Int) (r : List Int) (w : World) (hr0_1 : Kd.C (Kd.int .i64) w A0_1 l0_1.length l0_1) (hc0_1 : l0_1.length ≤ c0_1) (h : spec_l10Pseudo.f k a0_0 l0_1 = some r) :
  Calls Tryz.prog 32 #[.agg #[.int .i64 a0_0, .slice A0_1 l0_1.length c0_1]] w fun e w' => ∃ v0_ : Value, e = .returned (v0_) ∧ Kd.R (Kd.int .i64) 3 w' w.heap.size (fun _ => True) v0_ r ∧ Below w.heap.size w w' := by
 have hu29 := Tryz.underlying29; have HR0_1 := Aside0.mk hr0_1; have HC0_1 := Aside0.mk hc0_1; clear hr0_1 hc0_1; have HB := Aside0.mk (Below.refl w.heap.size w); have H := h; clear h; unfold spec_l10Pseudo.f at H; obtain ⟨y194, hy194⟩ : ∃ y_ : List Int, y_ = (([] : List Int)) := ⟨_, rfl⟩
 replace H : (spec_l10Pseudo.l0 k y194 0 a0_0 l0_1) = some r := by first | (rw [hy194]; with_reducible exact H) | (have H2_ := (Option.bind_some _ _).symm.trans H; rw [hy194]; with_reducible exact H2_) | (have H2_ := (Option.bind_some _ _).symm.trans H; with_reducible exact H2_) | with_reducible exact H | (rw [hy194]; exact H) | exact H
 have Ny194 := Aside0.mk hy194; clear hy194; have H' := Aside0.mk H; clear H
 go_enter Tryz.func32, Tryz.ntmps32
 go_wp2_with (first | ((with_reducible refine gate_dst (N := 1) rfl ?_); refine box_event ?hg (N := 1) ?hd (cs := #[.int .i64 a0_0, .slice A0_1 l0_1.length c0_1]) (t := 29) ?hr ?_; (case hd => rfl); (case hg => rfl); (case hr => first | (go_simp; done) | (go_simp; rfl)); intro gb193 hg w2 hbox hb; have n_ := ac_ (below_step q4_5 hb) <| ac_ (hbox) <| ac_ ((by rw [hg]; exact (below_size q4_5) : w.heap.size ≤ gb193)) <| Aside0.mk ((by rw [hg]; exact (below_size q4_5) : w.heap.size ≤ gb193)); clear HB; obtain ⟨HB, BK193, GW193, GE193⟩ := n_; clear hb hbox hg) | ((with_reducible refine gate_dst (N := 7) rfl ?_); refine Kd.R_lit (Kd.int .i64) _ 3 ?hg (N := 7) ?hd (xs := ([] : List Int)) (inner := []) (ok := fun _ => True) (okp := fun _ => True) ?hr ?hp (fun _ hk => hk) trivial (Below.refl _ _) (Nat.le_refl _) (by simp) ?_; (case hd => rfl); (case hg => rfl); (case hr => first | (go_simp; done) | (go_simp; rfl)); (case hp => exact (Reps.none _ _)); intro v195 w3 ho4 hb hg_ hnew_; clear hg_ hnew_; (first | rw [← Ny194.out] at ho4 | (simp only [Int.reduceToNat] at ho4; rw [← Ny194.out] at ho4)); have n_ := ac_ (Kd.R_lower ho4 (below_size q4_3)) <| ac_ (blk_below (g := gb193) (o := .cells #[.int .i64 a0_0, .slice A0_1 l0_1.length c0_1] 29 (0, 0)) q4_6 hb) <| Aside0.mk (below_step q4_3 hb); clear BK193 HB; obtain ⟨HO196, BK193, HB⟩ := n_; clear hb ho4))
 go_loopg [3, 4] k (fun kq v3 v4 w' => ∃ (x3_1 : List Int) (x4_1 : Int), v4 = .int .i64 x4_1 ∧ Aside0 (spec_l10Pseudo.l0 kq x3_1 x4_1 a0_0 l0_1 = some r) ∧ Aside0 (kq ≤ k) ∧ Aside0 (Kd.R (Kd.int .i64) 3 w' w.heap.size (fun _ => True) v3 x3_1) ∧ Aside0 (w'.heap[gb193]? = some (.cells #[.int .i64 a0_0, (.slice A0_1 l0_1.length c0_1)] 29 (0, 0))) ∧ Aside0 (Below w.heap.size w w'))
 case atStart => exact ⟨(y194), (0), q4_8, H', ⟨Nat.le_refl _⟩, ⟨(by (with_reducible repeat (first | apply Kd.R_alloc | apply Kd.R_drewN | apply Kd.R_drew)); exact HO196.out)⟩, ⟨q4_6⟩, ⟨q4_3⟩⟩
 case round =>
  clear H'
  try clear p2
  try clear c3
  obtain ⟨x3_1, x4_1, rfl, HA, HK1, HO_3, BK193, HB⟩ := hrel
  cases gk with
  | zero => exact absurd HA.out (by simp [spec_l10Pseudo.l0])
  | succ k1 =>
   have H := HA.out; clear HA
   simp only [spec_l10Pseudo.l0] at H
   obtain ⟨t197, A5, H⟩ := bnd4_ H
   by_cases c6 : x4_1 ≤ t197
   ·
    rw [if_pos c6] at H; have c6b0 : decide (x4_1 ≤ t197) = true := decide_eq_true c6; clear c6; obtain ⟨t201, A7, H⟩ := bnd4_ H
    by_cases c8 : t201 = x4_1
    ·
     rw [if_pos c8] at H; have c8b0 : (t201 == x4_1) = true := beq_iff_eq.mpr c8; have c8b1 : (t201 != x4_1) = false := bne_eq_false_iff_eq.mpr c8; clear c8; have H' := Aside0.mk H; clear H; have hcz9_0 : wr.cell? ⟨gb193, 0, none⟩ = some (.int .i64 a0_0) := (blk_cell BK193.out 0).trans rfl; have hcz9_1 : wr.cell? ⟨gb193, 1, none⟩ = some (.slice A0_1 l0_1.length c0_1) := (blk_cell BK193.out 1).trans rfl; have hfz9_0 := blk_frozen BK193.out 0; have hfz9_1 := blk_frozen BK193.out 1
     go_wp2_with (first | ((with_reducible refine gate_callee (f := 52) rfl ?_); refine goesL_ (some 11) rfl rfl Tryz.func52 q4_10 rfl #[.int .i64 a0_0] rfl q4_4 ?_; (with_reducible refine (spec_FullSet.calls a0_0 t197 _ A5.out).mono ?_); rintro e w' ⟨rfl, ⟨nd, rfl⟩⟩; refine ⟨_, rfl, ?_⟩) | ((with_reducible refine gate_callee (f := 36) rfl ?_); refine goesL_ (some 17) rfl rfl Tryz.func36 q4_10 rfl #[.agg #[.int .i64 a0_0, .slice A0_1 l0_1.length c0_1], .int .i64 x4_1] rfl q4_4 ?_; (with_reducible refine (spec_l4Closure.calls k1 a0_0 _ _ l0_1 x4_1 t201 _ ?side1 ?side2 A7.out).mono ?_); (case side1 => exact q4_1); (case side2 => exact HC0_1.out); rintro e w10 ⟨rfl, hb⟩; refine ⟨_, rfl, ?_⟩; have n_ := ac_ (Kd.R_below q4_7 hb) <| ac_ (blk_below (g := gb193) (o := .cells #[.int .i64 a0_0, .slice A0_1 l0_1.length c0_1] 29 (0, 0)) q4_6 hb) <| Aside0.mk (below_step q4_3 hb); clear HO_3 BK193 HB; obtain ⟨HO_3, BK193, HB⟩ := n_; (try clear hb)))
     go_roundg k1
     case measure => have := HK1.out; omega
     case rel => exact ⟨(x3_1), (wrap64 (x4_1 + 1)), q4_8, H', ⟨by have := HK1.out; omega⟩, ⟨q4_7⟩, ⟨q4_6⟩, ⟨q4_3⟩⟩
    ·
     rw [if_neg c8] at H; have c8b0 : (t201 == x4_1) = false := beq_eq_false_iff_ne.mpr c8; have c8b1 : (t201 != x4_1) = true := bne_iff_ne.mpr c8; have H' := Aside0.mk H; clear H; have hcz11_0 : wr.cell? ⟨gb193, 0, none⟩ = some (.int .i64 a0_0) := (blk_cell BK193.out 0).trans rfl; have hcz11_1 : wr.cell? ⟨gb193, 1, none⟩ = some (.slice A0_1 l0_1.length c0_1) := (blk_cell BK193.out 1).trans rfl; have hfz11_0 := blk_frozen BK193.out 0; have hfz11_1 := blk_frozen BK193.out 1
     go_wp2_with (first | ((with_reducible refine gate_callee (f := 52) rfl ?_); refine goesL_ (some 11) rfl rfl Tryz.func52 q4_10 rfl #[.int .i64 a0_0] rfl q4_4 ?_; (with_reducible refine (spec_FullSet.calls a0_0 t197 _ A5.out).mono ?_); rintro e w' ⟨rfl, ⟨nd, rfl⟩⟩; refine ⟨_, rfl, ?_⟩) | ((with_reducible refine gate_callee (f := 36) rfl ?_); refine goesL_ (some 17) rfl rfl Tryz.func36 q4_10 rfl #[.agg #[.int .i64 a0_0, .slice A0_1 l0_1.length c0_1], .int .i64 x4_1] rfl q4_4 ?_; (with_reducible refine (spec_l4Closure.calls k1 a0_0 _ _ l0_1 x4_1 t201 _ ?side1 ?side2 A7.out).mono ?_); (case side1 => exact q4_1); (case side2 => exact HC0_1.out); rintro e w12 ⟨rfl, hb⟩; refine ⟨_, rfl, ?_⟩; have n_ := ac_ (Kd.R_below q4_7 hb) <| ac_ (blk_below (g := gb193) (o := .cells #[.int .i64 a0_0, .slice A0_1 l0_1.length c0_1] 29 (0, 0)) q4_6 hb) <| Aside0.mk (below_step q4_3 hb); clear HO_3 BK193 HB; obtain ⟨HO_3, BK193, HB⟩ := n_; (try clear hb)))
     go_loopg [5, 6] k1 (fun kq v5 v6 w' => ∃ (x5_2 : Bool) (x6_2 : Int), v5 = .bool x5_2 ∧ v6 = .int .i64 x6_2 ∧ Aside0 (spec_l10Pseudo.l1 kq x3_1 x4_1 x5_2 x6_2 a0_0 l0_1 = some r) ∧ Aside0 (kq ≤ k1) ∧ Aside0 (Kd.R (Kd.int .i64) 3 w' w.heap.size (fun _ => True) u3 x3_1) ∧ Aside0 (w'.heap[gb193]? = some (.cells #[.int .i64 a0_0, (.slice A0_1 l0_1.length c0_1)] 29 (0, 0))) ∧ Aside0 (Below w.heap.size w w'))
     case atStart => exact ⟨(true), (0), q4_8, q4_8, H', ⟨Nat.le_refl _⟩, ⟨q4_7⟩, ⟨q4_6⟩, ⟨q4_3⟩⟩
     case round =>
      clear H'
      try clear p2
      try clear c3
      try clear c5
      try clear c6
      try clear c6b0
      try clear p6
      try clear c8
      try clear c8b0
      try clear c8b1
      try clear hcz11_0
      try clear hcz11_1
      try clear hcz9_0
      try clear hcz9_1
      try clear hfz11_0
      try clear hfz11_1
      try clear hfz9_0
      try clear hfz9_1
      try clear p2
      obtain ⟨x5_2, x6_2, rfl, rfl, HA, HK2, HO_3, BK193, HB⟩ := hrel
      cases gk with
      | zero => exact absurd HA.out (by simp [spec_l10Pseudo.l1])
      | succ k2 =>
       have H := HA.out; clear HA
       simp only [spec_l10Pseudo.l1] at H
       by_cases c13 : x6_2 < (x3_1.length : Int)
       ·
        rw [if_pos c13] at H; have c13b0 : decide (x6_2 < (x3_1.length : Int)) = true := decide_eq_true c13; clear c13
        by_cases c14 : x5_2 = true
        ·
         subst c14; rw [if_pos rfl] at H
         by_cases c15 : 0 ≤ x6_2
         ·
          rw [if_pos c15] at H; have c15b0 : decide (0 ≤ x6_2) = true := decide_eq_true c15; clear c15
          by_cases c16 : (Go.bits .and .i64 (rd x3_1 x6_2) x4_1) = (rd x3_1 x6_2)
          ·
           rw [if_pos c16] at H; have c16b0 : ((Go.bits .and .i64 (rd x3_1 x6_2) x4_1) == (rd x3_1 x6_2)) = true := beq_iff_eq.mpr c16; have c16b1 : ((Go.bits .and .i64 (rd x3_1 x6_2) x4_1) != (rd x3_1 x6_2)) = false := bne_eq_false_iff_eq.mpr c16; clear c16; obtain ⟨t205, A17, H⟩ := bnd4_ H; obtain ⟨t207, A18, H⟩ := bnd4_ H; have H' := Aside0.mk H; clear H; obtain ⟨Ao19, co19, eo19⟩ := Kd.R_slice HO_3.out; subst eo19
           try go_wp2
           have n0_ := Aside0.mk (Kd.R_drew HO_3.out); have n1_ := Aside0.mk (blk_drew BK193.out); have n2_ := Aside0.mk (below_drew1 HB.out); clear HO_3; clear BK193; clear HB; have HO_3 := n0_; have BK193 := n1_; have HB := n2_; clear n0_ n1_ n2_; have p202 : 0 ≤ (x6_2 : Int) := of_decide_eq_true q4_9; have q202 : x6_2 < (x3_1.length : Int) := of_decide_eq_true q4_9; obtain ⟨ad202, e202, hx202_0⟩ := Kd.at_int (Kd.R_reads' HO_3.out).2.2 x6_2 p202 q202
           cases e202
           replace p202 := eq_true p202; replace q202 := eq_true q202; have p203 : 0 ≤ (x6_2 : Int) := of_decide_eq_true q4_9; have q203 : x6_2 < (x3_1.length : Int) := of_decide_eq_true q4_9; obtain ⟨ad203, e203, hx203_0⟩ := Kd.at_int (Kd.R_reads' HO_3.out).2.2 x6_2 p203 q203
           obtain rfl : ad202 = ad203 := (by injection e203)
           replace p203 := eq_true p203; replace q203 := eq_true q203; have p204 : 0 ≤ (x6_2 : Int) := of_decide_eq_true q4_9; have q204 : x6_2 < (x3_1.length : Int) := of_decide_eq_true q4_9; obtain ⟨ad204, e204, hx204_0⟩ := Kd.at_int (Kd.R_reads' HO_3.out).2.2 x6_2 p204 q204
           obtain rfl : ad202 = ad204 := (by injection e204)
           replace p204 := eq_true p204; replace q204 := eq_true q204; have p206 : 0 ≤ (x6_2 : Int) := of_decide_eq_true q4_9; have q206 : x6_2 < (x3_1.length : Int) := of_decide_eq_true q4_9; obtain ⟨ad206, e206, hx206_0⟩ := Kd.at_int (Kd.R_reads' HO_3.out).2.2 x6_2 p206 q206
           obtain rfl : ad202 = ad206 := (by injection e206)
           replace p206 := eq_true p206; replace q206 := eq_true q206
           refine start_ (n := 32) (S := fun w' => w'.cell? ⟨gb193, 0, none⟩ = some (.int .i64 a0_0) ∧ w'.cell? ⟨gb193, 1, none⟩ = some (.slice A0_1 l0_1.length c0_1) ∧ w'.cell? (ad202.add (x6_2).toNat) = some (.int .i64 (rd x3_1 x6_2)) ∧ w'.cell? (ad202.add (x6_2).toNat) = some (.int .i64 (rd x3_1 x6_2)) ∧ w'.cell? (ad202.add (x6_2).toNat) = some (.int .i64 (rd x3_1 x6_2)) ∧ w'.cell? (ad202.add (x6_2).toNat) = some (.int .i64 (rd x3_1 x6_2))) (ds := []) (tb_ 32 0) q4_10 rfl rfl ⟨(blk_cell BK193.out 0).trans rfl, (blk_cell BK193.out 1).trans rfl, hx202_0, hx203_0, hx204_0, hx206_0⟩ (fun hHeld => ?_); refine with_tabW spec_l10Pseudo.tab10 spec_l10Pseudo.bits10 (fun HT_ HW_ => ?_)
           generalize wr.drew = w20 at HO_3 BK193 HB hx202_0 hx203_0 hx204_0 hx206_0 hHeld ⊢
           refine pl_ 0 26 (tb_ 32 1) ?_; refine pl_ 1 27 (tb_ 32 3) ?_; refine pl_ 2 28 (tb_ 32 7) ?_; refine pl_ 3 29 (tb_ 32 15) ?_; refine pl_ 4 30 (tb_ 32 31) ?_; refine pl_ 6 32 (tb_ 32 95) ?_; refine pl_ 8 34 (tb_ 32 351) ?_; refine pl_ 9 35 (tb_ 32 863) ?_; refine pl_ 10 36 (tb_ 32 1887) ?_
           refine take_ (i := 5) (N := some 31) (v := ?_) (a' := ?_) (tb_ 32 1919) rfl rfl (take_ofW HT_.out HW_.out q4_10) (fun _ _ _ h => h) (Or.inl ⟨by rfl, ?_⟩) hHeld ?_ ?_
           rotate_left
           ·
            rintro w' ⟨s0, s1, s2, s3, s4, s5⟩
            go_simp; with_reducible rfl
           rotate_left
           ·
            exact put4_
           refine pl_ 7 33 (tb_ 32 2047) ?_
           refine take_ (i := 11) (N := some 37) (v := ?_) (a' := ?_) (tb_ 32 4095) rfl rfl (take_ofW HT_.out HW_.out q4_10) (fun _ _ _ h => h) (Or.inl ⟨by rfl, ?_⟩) hHeld ?_ ?_
           rotate_left
           ·
            rintro w' ⟨s0, s1, s2, s3, s4, s5⟩
            go_simp; with_reducible rfl
           rotate_left
           ·
            exact put4_
           refine pl_ 12 38 (tb_ 32 8191) ?_; refine pl_ 13 39 (tb_ 32 16383) ?_; refine pl_ 15 41 (tb_ 32 49151) ?_; refine pl_ 16 42 (tb_ 32 114687) ?_; refine pl_ 17 43 (tb_ 32 245759) ?_; refine pl_ 20 46 (tb_ 32 1294335) ?_; refine pl_ 23 49 (tb_ 32 9682943) ?_; refine pl_ 24 50 (tb_ 32 26460159) ?_; refine pl_ 25 51 (tb_ 32 60014591) ?_
           refine take_ (i := 14) (N := some 40) (v := ?_) (a' := ?_) (tb_ 32 60030975) rfl rfl (take_ofW HT_.out HW_.out q4_10) (fun _ _ _ h => h) (Or.inl ⟨by rfl, ?_⟩) hHeld ?_ ?_
           rotate_left
           ·
            rintro w' ⟨s0, s1, s2, s3, s4, s5⟩
            go_simp; with_reducible rfl
           rotate_left
           ·
            exact put4_
           refine take_ (i := 18) (N := some 44) (v := ?_) (a' := ?_) (tb_ 32 60293119) rfl rfl (take_ofW HT_.out HW_.out q4_10) (fun _ _ _ h => h) (Or.inl ⟨by rfl, ?_⟩) hHeld ?_ ?_
           rotate_left
           ·
            rintro w' ⟨s0, s1, s2, s3, s4, s5⟩
            go_simp; with_reducible rfl
           rotate_left
           ·
            exact put4_
           refine take_ (i := 22) (N := some 48) (v := ?_) (a' := ?_) (tb_ 32 64487423) rfl rfl (take_ofW HT_.out HW_.out q4_10) (fun _ _ _ h => h) (Or.inl ⟨by rfl, ?_⟩) hHeld ?_ ?_
           rotate_left
           ·
            rintro w' ⟨s0, s1, s2, s3, s4, s5⟩
            go_simp; with_reducible rfl
           rotate_left
           ·
            exact put4_
           refine take_ (i := 26) (N := some 52) (v := ?_) (a' := ?_) (tb_ 32 131596287) rfl rfl (take_ofW HT_.out HW_.out q4_10) (fun _ _ _ h => h) (Or.inl ⟨by rfl, ?_⟩) hHeld ?_ ?_
           rotate_left
           ·
            rintro w' ⟨s0, s1, s2, s3, s4, s5⟩
            go_simp; with_reducible rfl
           rotate_left
           ·
            exact put4_
           refine one_ (i := 19) (N := some 45) (tb_ 32 132120575) rfl rfl (one_of HT_.out q4_10) (by decide) (fun K hK => ?_)
           refine goes_ Tryz.func36 q4_10 rfl #[.agg #[.int .i64 a0_0, .slice _ l0_1.length c0_1], .int .i64 (rd x3_1 x6_2)] (by rfl) rfl rfl q4_4 ?_
           with_reducible refine (spec_l4Closure.calls k2 a0_0 _ _ l0_1 (rd x3_1 x6_2) t205 _ ?side1 ?side2 A17.out).mono ?_
           (case side1 => exact q4_2)
           (case side2 => exact HC0_1.out)
           rintro e w21 ⟨rfl, hb⟩
           have HS2_ := (hb.cell (World.block_lt_of_cell? _ _ (hHeld.2.2.1))).trans (hHeld.2.2.1); have HS3_ := (hb.cell (World.block_lt_of_cell? _ _ (hHeld.2.2.2.1))).trans (hHeld.2.2.2.1); have HS4_ := (hb.cell (World.block_lt_of_cell? _ _ (hHeld.2.2.2.2.1))).trans (hHeld.2.2.2.2.1); have HS5_ := (hb.cell (World.block_lt_of_cell? _ _ (hHeld.2.2.2.2.2))).trans (hHeld.2.2.2.2.2)
           refine ⟨_, rfl, ?_⟩
           have n0_ := Aside0.mk (Kd.R_below q4_7 hb); have n1_ := Aside0.mk (blk_below (g := gb193) (o := .cells #[.int .i64 a0_0, .slice A0_1 l0_1.length c0_1] 29 (0, 0)) q4_6 hb); have n2_ := Aside0.mk (below_step q4_3 hb); clear HO_3; clear BK193; clear HB; have HO_3 := n0_; have BK193 := n1_; have HB := n2_; clear n0_ n1_ n2_
           (try clear hb)
           (try clear hb2)
           (try clear hk)
           (try clear hi)
           refine hK.out _ _ ⟨(blk_cell BK193.out 0).trans rfl, (blk_cell BK193.out 1).trans rfl, HS2_, HS3_, HS4_, HS5_⟩ (fun hHeld => ?_)
           clear hK K
           refine norm_ (a' := ?_) ?_ ?_
           rotate_left
           ·
            show Act.put _ (some 45) _ = _
            exact put4_
           refine pl_ 21 47 (tb_ 32 134217727) ?_
           refine one_ (i := 27) (N := some 53) (tb_ 32 268435455) rfl rfl (one_of HT_.out q4_10) (by decide) (fun K hK => ?_)
           refine goes_ Tryz.func36 q4_10 rfl #[.agg #[.int .i64 a0_0, .slice _ l0_1.length c0_1], .int .i64 (rd x3_1 x6_2)] (by rfl) rfl rfl q4_4 ?_
           with_reducible refine (spec_l4Closure.calls k2 a0_0 _ _ l0_1 (rd x3_1 x6_2) t207 _ ?side1 ?side2 A18.out).mono ?_
           (case side1 => exact q4_2)
           (case side2 => exact HC0_1.out)
           rintro e w22 ⟨rfl, hb⟩
           have HS2_ := (hb.cell (World.block_lt_of_cell? _ _ (hHeld.2.2.1))).trans (hHeld.2.2.1); have HS3_ := (hb.cell (World.block_lt_of_cell? _ _ (hHeld.2.2.2.1))).trans (hHeld.2.2.2.1); have HS4_ := (hb.cell (World.block_lt_of_cell? _ _ (hHeld.2.2.2.2.1))).trans (hHeld.2.2.2.2.1); have HS5_ := (hb.cell (World.block_lt_of_cell? _ _ (hHeld.2.2.2.2.2))).trans (hHeld.2.2.2.2.2)
           refine ⟨_, rfl, ?_⟩
           have n0_ := Aside0.mk (Kd.R_below q4_7 hb); have n1_ := Aside0.mk (blk_below (g := gb193) (o := .cells #[.int .i64 a0_0, .slice A0_1 l0_1.length c0_1] 29 (0, 0)) q4_6 hb); have n2_ := Aside0.mk (below_step q4_3 hb); clear HO_3; clear BK193; clear HB; have HO_3 := n0_; have BK193 := n1_; have HB := n2_; clear n0_ n1_ n2_
           (try clear hb)
           (try clear hb2)
           (try clear hk)
           (try clear hi)
           refine hK.out _ _ ⟨(blk_cell BK193.out 0).trans rfl, (blk_cell BK193.out 1).trans rfl, HS2_, HS3_, HS4_, HS5_⟩ (fun hHeld => ?_)
           clear hK K
           refine norm_ (a' := ?_) ?_ ?_
           rotate_left
           ·
            show Act.put _ (some 53) _ = _
            exact put4_
           refine pl_ 28 54 (tb_ 32 536870911) ?_; refine pl_ 29 55 (tb_ 32 1073741823) ?_; refine pl_ 30 56 (tb_ 32 2147483647) ?_; refine pl_ 31 5 (tb_ 32 4294967295) ?_
           refine done_ (done_of HT_.out q4_10) ?_
           try go_wp2
           go_roundg k2
           case measure => have := HK1.out; have := HK2.out; omega
           case rel => exact ⟨(((Go.bits .and .i64 t205 x4_1) == t207)), (wrap64 (x6_2 + 1)), q4_8, q4_8, H', ⟨by have := HK1.out; have := HK2.out; omega⟩, ⟨q4_7⟩, ⟨q4_6⟩, ⟨q4_3⟩⟩
          ·
           rw [if_neg c16] at H; have c16b0 : ((Go.bits .and .i64 (rd x3_1 x6_2) x4_1) == (rd x3_1 x6_2)) = false := beq_eq_false_iff_ne.mpr c16; have c16b1 : ((Go.bits .and .i64 (rd x3_1 x6_2) x4_1) != (rd x3_1 x6_2)) = true := bne_iff_ne.mpr c16; have H' := Aside0.mk H; clear H; obtain ⟨Ao23, co23, eo23⟩ := Kd.R_slice HO_3.out; subst eo23
           try go_wp2
           have n0_ := Aside0.mk (Kd.R_drew HO_3.out); have n1_ := Aside0.mk (blk_drew BK193.out); have n2_ := Aside0.mk (below_drew1 HB.out); clear HO_3; clear BK193; clear HB; have HO_3 := n0_; have BK193 := n1_; have HB := n2_; clear n0_ n1_ n2_; have p202 : 0 ≤ (x6_2 : Int) := of_decide_eq_true q4_9; have q202 : x6_2 < (x3_1.length : Int) := of_decide_eq_true q4_9; obtain ⟨ad202, e202, hx202_0⟩ := Kd.at_int (Kd.R_reads' HO_3.out).2.2 x6_2 p202 q202
           cases e202
           replace p202 := eq_true p202; replace q202 := eq_true q202; have p203 : 0 ≤ (x6_2 : Int) := of_decide_eq_true q4_9; have q203 : x6_2 < (x3_1.length : Int) := of_decide_eq_true q4_9; obtain ⟨ad203, e203, hx203_0⟩ := Kd.at_int (Kd.R_reads' HO_3.out).2.2 x6_2 p203 q203
           obtain rfl : ad202 = ad203 := (by injection e203)
           replace p203 := eq_true p203; replace q203 := eq_true q203
           refine start_ (n := 32) (S := fun w' => w'.cell? (ad202.add (x6_2).toNat) = some (.int .i64 (rd x3_1 x6_2)) ∧ w'.cell? (ad202.add (x6_2).toNat) = some (.int .i64 (rd x3_1 x6_2))) (ds := []) (tb_ 32 0) q4_10 rfl rfl ⟨hx202_0, hx203_0⟩ (fun hHeld => ?_); refine with_tabW spec_l10Pseudo.tab10 spec_l10Pseudo.bits10 (fun HT_ HW_ => ?_)
           generalize wr.drew = w24 at HO_3 BK193 HB hx202_0 hx203_0 hHeld ⊢
           refine pl_ 0 26 (tb_ 32 1) ?_; refine pl_ 1 27 (tb_ 32 3) ?_; refine pl_ 2 28 (tb_ 32 7) ?_; refine pl_ 3 29 (tb_ 32 15) ?_; refine pl_ 4 30 (tb_ 32 31) ?_; refine pl_ 6 32 (tb_ 32 95) ?_; refine pl_ 8 34 (tb_ 32 351) ?_; refine pl_ 9 35 (tb_ 32 863) ?_; refine pl_ 10 36 (tb_ 32 1887) ?_
           refine take_ (i := 5) (N := some 31) (v := ?_) (a' := ?_) (tb_ 32 1919) rfl rfl (take_ofW HT_.out HW_.out q4_10) (fun _ _ _ h => h) (Or.inl ⟨by rfl, ?_⟩) hHeld ?_ ?_
           rotate_left
           ·
            rintro w' ⟨s0, s1⟩
            go_simp; with_reducible rfl
           rotate_left
           ·
            exact put4_
           refine pl_ 7 33 (tb_ 32 2047) ?_
           refine take_ (i := 11) (N := some 37) (v := ?_) (a' := ?_) (tb_ 32 4095) rfl rfl (take_ofW HT_.out HW_.out q4_10) (fun _ _ _ h => h) (Or.inl ⟨by rfl, ?_⟩) hHeld ?_ ?_
           rotate_left
           ·
            rintro w' ⟨s0, s1⟩
            go_simp; with_reducible rfl
           rotate_left
           ·
            exact put4_
           refine pl_ 12 38 (tb_ 32 8191) ?_; refine pl_ 13 39 (tb_ 32 16383) ?_; refine pr_ 14 40 (tb_ 32 32767) ?_; refine pr_ 15 41 (tb_ 32 65535) ?_; refine pr_ 16 42 (tb_ 32 131071) ?_; refine pr_ 17 43 (tb_ 32 262143) ?_; refine pr_ 18 44 (tb_ 32 524287) ?_; refine pr_ 19 45 (tb_ 32 1048575) ?_; refine pr_ 20 46 (tb_ 32 2097151) ?_; refine pr_ 21 47 (tb_ 32 4194303) ?_; refine pr_ 22 48 (tb_ 32 8388607) ?_; refine pr_ 23 49 (tb_ 32 16777215) ?_; refine pr_ 24 50 (tb_ 32 33554431) ?_; refine pr_ 25 51 (tb_ 32 67108863) ?_; refine pr_ 26 52 (tb_ 32 134217727) ?_; refine pr_ 27 53 (tb_ 32 268435455) ?_; refine pr_ 28 54 (tb_ 32 536870911) ?_; refine pl_ 29 55 (tb_ 32 1073741823) ?_; refine pl_ 30 56 (tb_ 32 2147483647) ?_; refine pl_ 31 5 (tb_ 32 4294967295) ?_
           refine done_ (done_of HT_.out q4_10) ?_
           try go_wp2
           go_roundg k2
           case measure => have := HK1.out; have := HK2.out; omega
           case rel => exact ⟨(true), (wrap64 (x6_2 + 1)), q4_8, q4_8, H', ⟨by have := HK1.out; have := HK2.out; omega⟩, ⟨q4_7⟩, ⟨q4_6⟩, ⟨q4_3⟩⟩
         ·
          rw [if_neg c15] at H
          exact absurd H (by simp)
        ·
         replace c14 := Bool.eq_false_iff.mpr c14; subst c14
         rw [if_neg (show ¬ (false = true) by decide)] at H
         have H' := Aside0.mk H; clear H; obtain ⟨Ao25, co25, eo25⟩ := Kd.R_slice HO_3.out; subst eo25
         try go_wp2
         have n0_ := Aside0.mk (Kd.R_drew HO_3.out); have n1_ := Aside0.mk (blk_drew BK193.out); have n2_ := Aside0.mk (below_drew1 HB.out); clear HO_3; clear BK193; clear HB; have HO_3 := n0_; have BK193 := n1_; have HB := n2_; clear n0_ n1_ n2_
         refine start_ (n := 32) (S := fun w' => True) (ds := []) (tb_ 32 0) q4_10 rfl rfl trivial (fun hHeld => ?_); refine with_tabW spec_l10Pseudo.tab10 spec_l10Pseudo.bits10 (fun HT_ HW_ => ?_)
         generalize wr.drew = w26 at HO_3 BK193 HB hHeld ⊢
         refine pl_ 0 26 (tb_ 32 1) ?_; refine pl_ 1 27 (tb_ 32 3) ?_; refine pr_ 2 28 (tb_ 32 7) ?_; refine pr_ 3 29 (tb_ 32 15) ?_; refine pr_ 4 30 (tb_ 32 31) ?_; refine pr_ 5 31 (tb_ 32 63) ?_; refine pr_ 6 32 (tb_ 32 127) ?_; refine pr_ 7 33 (tb_ 32 255) ?_; refine pr_ 8 34 (tb_ 32 511) ?_; refine pr_ 9 35 (tb_ 32 1023) ?_; refine pr_ 10 36 (tb_ 32 2047) ?_; refine pr_ 11 37 (tb_ 32 4095) ?_; refine pr_ 12 38 (tb_ 32 8191) ?_; refine pr_ 13 39 (tb_ 32 16383) ?_; refine pr_ 14 40 (tb_ 32 32767) ?_; refine pr_ 15 41 (tb_ 32 65535) ?_; refine pr_ 16 42 (tb_ 32 131071) ?_; refine pr_ 17 43 (tb_ 32 262143) ?_; refine pr_ 18 44 (tb_ 32 524287) ?_; refine pr_ 19 45 (tb_ 32 1048575) ?_; refine pr_ 20 46 (tb_ 32 2097151) ?_; refine pr_ 21 47 (tb_ 32 4194303) ?_; refine pr_ 22 48 (tb_ 32 8388607) ?_; refine pr_ 23 49 (tb_ 32 16777215) ?_; refine pr_ 24 50 (tb_ 32 33554431) ?_; refine pr_ 25 51 (tb_ 32 67108863) ?_; refine pr_ 26 52 (tb_ 32 134217727) ?_
         refine pr_ 27 53 (tb_ 32 268435455) ?_; refine pr_ 28 54 (tb_ 32 536870911) ?_; refine pr_ 29 55 (tb_ 32 1073741823) ?_; refine pl_ 30 56 (tb_ 32 2147483647) ?_; refine pl_ 31 5 (tb_ 32 4294967295) ?_
         refine done_ (done_of HT_.out q4_10) ?_
         try go_wp2
         go_roundg k2
         case measure => have := HK1.out; have := HK2.out; omega
         case rel => exact ⟨(false), (wrap64 (x6_2 + 1)), q4_8, q4_8, H', ⟨by have := HK1.out; have := HK2.out; omega⟩, ⟨q4_7⟩, ⟨q4_6⟩, ⟨q4_3⟩⟩
       ·
        rw [if_neg c13] at H; have c13b0 : decide (x6_2 < (x3_1.length : Int)) = false := decide_eq_false c13; clear c13
        by_cases c27 : x5_2 = true
        ·
         subst c27; rw [if_pos rfl] at H
         by_cases c28 : x3_1.length < 17592186044416
         ·
          rw [if_pos c28] at H; have LMc28 := Aside0.mk c28; clear c28; obtain ⟨y208, hy208⟩ : ∃ y_ : List Int, y_ = (x3_1 ++ [x4_1]) := ⟨_, rfl⟩
          replace H : (spec_l10Pseudo.l0 k2 y208 (wrap64 (x4_1 + 1)) a0_0 l0_1) = some r := by first | (rw [hy208]; with_reducible exact H) | (have H2_ := (Option.bind_some _ _).symm.trans H; rw [hy208]; with_reducible exact H2_) | (have H2_ := (Option.bind_some _ _).symm.trans H; with_reducible exact H2_) | with_reducible exact H | (rw [hy208]; exact H) | exact H
          have Ny208 := Aside0.mk hy208; clear hy208; have H' := Aside0.mk H; clear H; obtain ⟨Ao29, co29, eo29⟩ := Kd.R_slice HO_3.out; subst eo29
          go_wp2_with (first | ((with_reducible refine gate_builtin (b := .append) (xs := #[.tmp 58, .tmp 60]) rfl ?_); at_builtin; refine Kd.R_append (Kd.int .i64) (w0 := w) w.heap.size rfl (.tmp 58) (.tmp 60) 22 3 (.int .i64 0) 8 rfl Tryz.underlying22 info3 rfl (by decide) (by omega) (.slice Ao29 x3_1.length co29) x3_1 x4_1 [.int .i64 x4_1] (fun _ => True) (fun _ => False) rfl rfl ?aP (fun _ hk => hk.elim) ?aF ?aO ?aB ?aS ?aL ?_; (case aP => exact rfl); (case aB => exact q4_3); (case aF => exact (fun _ _ => trivial)); (case aO => exact q4_7); (case aS => exact (below_size q4_3)); (case aL => have := LMc28.out; omega); intro v209 w30 ho hb hg hat; rw [← Ny208.out] at ho; have n_ := ac_ (blk_grown (g := gb193) (o := .cells #[.int .i64 a0_0, .slice A0_1 l0_1.length c0_1] 29 (0, 0)) q4_6 hg (Kd.R_ne HO_3.out BK193.out (by decide))) <| ac_ (hb) <| Aside0.mk (ho); clear BK193 HB HO_3; obtain ⟨BK193, HB, HO210⟩ := n_; clear ho hb hg hat))
          go_roundg k2
          case measure => have := HK1.out; have := HK2.out; omega
          case rel => exact ⟨(y208), (wrap64 (x4_1 + 1)), q4_8, H', ⟨by have := HK1.out; have := HK2.out; omega⟩, ⟨(by (with_reducible repeat (first | apply Kd.R_alloc | apply Kd.R_drewN | apply Kd.R_drew)); exact HO210.out)⟩, ⟨q4_6⟩, ⟨q4_3⟩⟩
         ·
          rw [if_neg c28] at H
          exact absurd H (by simp)
        ·
         replace c27 := Bool.eq_false_iff.mpr c27; subst c27
         rw [if_neg (show ¬ (false = true) by decide)] at H
         have H' := Aside0.mk H; clear H; obtain ⟨Ao31, co31, eo31⟩ := Kd.R_slice HO_3.out; subst eo31
         go_wp2
         go_roundg k2
         case measure => have := HK1.out; have := HK2.out; omega
         case rel => exact ⟨(x3_1), (wrap64 (x4_1 + 1)), q4_8, H', ⟨by have := HK1.out; have := HK2.out; omega⟩, ⟨q4_7⟩, ⟨q4_6⟩, ⟨q4_3⟩⟩
   ·
    rw [if_neg c6] at H; have c6b0 : decide (x4_1 ≤ t197) = false := decide_eq_false c6; clear c6; obtain ⟨t198, A32, H⟩ := bnd4_ H; obtain rfl := Option.some.inj H; have hcz33_0 : wr.cell? ⟨gb193, 0, none⟩ = some (.int .i64 a0_0) := (blk_cell BK193.out 0).trans rfl; have hcz33_1 : wr.cell? ⟨gb193, 1, none⟩ = some (.slice A0_1 l0_1.length c0_1) := (blk_cell BK193.out 1).trans rfl; have hfz33_0 := blk_frozen BK193.out 0; have hfz33_1 := blk_frozen BK193.out 1
    go_wp2_with (first | ((with_reducible refine gate_callee (f := 52) rfl ?_); refine goesL_ (some 11) rfl rfl Tryz.func52 q4_10 rfl #[.int .i64 a0_0] rfl q4_4 ?_; (with_reducible refine (spec_FullSet.calls a0_0 t197 _ A5.out).mono ?_); rintro e w' ⟨rfl, ⟨nd, rfl⟩⟩; refine ⟨_, rfl, ?_⟩; obtain ⟨Ao34, co34, eo34⟩ := Kd.R_slice HO_3.out; subst eo34) | ((with_reducible refine gate_callee (f := 53) rfl ?_); refine goesL_ (some 63) rfl rfl Tryz.func53 q4_10 rfl #[.slice Ao34 x3_1.length co34] rfl q4_4 ?_; (with_reducible refine (spec_SortLectic.calls k1 _ _ x3_1 t198 _ ?side1 ?side2 A32.out).mono ?_); (case side1 => repeat (first | exact (Kd.R_reads' HO_3.out).2.2 | (with_reducible refine Kd.C_alloc ?_ _) | (with_reducible refine Kd.C_drewN ?_ _) | (with_reducible refine Kd.C_drew ?_))); (case side2 => exact (Kd.R_reads' HO_3.out).2.1); rintro e w35 ⟨v199, rfl, ho0, hb⟩; refine ⟨_, rfl, ?_⟩; have n_ := ac_ (Kd.R_elder' q4_7 (Kd.R_base ho0) hb) <| ac_ (Kd.R_lower (Kd.R_new' ho0 (Kd.R_lt q4_7)) (below_size q4_3)) <| ac_ (blk_below (g := gb193) (o := .cells #[.int .i64 a0_0, .slice A0_1 l0_1.length c0_1] 29 (0, 0)) q4_6 hb) <| Aside0.mk (below_step q4_3 hb); clear HO_3 BK193 HB; obtain ⟨HO_3, HO200, BK193, HB⟩ := n_; (try clear hb ho0)))
    go_ret
    exact ⟨_, (by first | rfl | (simp [errW_none, errW_some] <;> rfl) | (simp [*, errW_none, errW_some] <;> rfl)), (by (with_reducible repeat (first | apply Kd.R_alloc | apply Kd.R_drewN | apply Kd.R_drew)); exact Kd.R_mono HO200.out (fun _ hk => trivial)), q4_3⟩
end Go.Proofs.YtbflblmkdnhboaaGreatDoor.Pr
