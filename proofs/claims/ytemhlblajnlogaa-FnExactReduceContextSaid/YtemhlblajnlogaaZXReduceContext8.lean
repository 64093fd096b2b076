/- What the law needs of the program's functions as plain functions, of the proofs that their calls answer so, and of plain laws: gathered by a program of this place (pack.py) out of its printed texts. No condition beyond what each statement says. -/
import Derived.Test.YtemhlblajnlogaaZXReduceContext2
import Derived.Test.YtemhlblajnlogaaZXReduceContext3
import Derived.Test.YtemhlblajnlogaaZXReduceContext6
import Derived.Test.YtemhlblajnlogaaZXReduceContext5
import Derived.Test.YtemhlblajnlogaaZXReduceContext7
namespace Go.Proofs.Ytemhlblajnlogaa.Pr
open Go.RowKit Go.Proofs.YtemhlblajnlogaaW.PrintWords Go.Proofs.YtemhlblajnlogaaW.PrintLast Go.Proofs.YtemhlblajnlogaaW.PrintMore
attribute [local go_sem] max2_int min2_int max_two min_two max_three min_three max_four min_four   -- for this text's walks alone
set_option linter.unusedVariables false
set_option linter.unusedSimpArgs false
theorem put9_ {P : Prop} (h : P := by simp only [Act.put, List.setIfInBounds_toArray, List.set_cons_zero, List.set_cons_succ, i64_w, i32_w]; rfl) : P := h
theorem q9_1 {P : Prop} (h : P := by repeat (first | (with_reducible first | exact HB.out | apply below_alloc | apply pw_below_drewN | apply below_drew1 | refine below_set ?_ GE599.out | refine below_set ?_ GE600.out | refine below_set ?_ GE602.out) | exact HB.out)) : P := h
theorem q9_2 {P : Prop} (h : P := by repeat (first | (with_reducible first | exact HB.out | apply below_alloc | apply pw_below_drewN | apply below_drew1 | refine below_set ?_ GE599.out | refine below_set ?_ GE600.out) | exact HB.out)) : P := h
theorem q9_3 {P : Prop} (h : P := by repeat (first | exact (Kd.R_reads' HO_603001.out).2.2 | (with_reducible refine Kd.C_alloc ?_ _) | (with_reducible refine Kd.C_drewN ?_ _) | (with_reducible refine Kd.C_drew ?_))) : P := h
theorem q9_4 {P : Prop} (h : P := by repeat (first | exact (Kd.C_below HR0_1.out HB.out) | (with_reducible refine Kd.C_alloc ?_ _) | (with_reducible refine Kd.C_drewN ?_ _) | (with_reducible refine Kd.C_drew ?_))) : P := h
theorem q9_5 {P : Prop} (h : P := by repeat (first | (with_reducible first | exact HB.out | apply below_alloc | apply pw_below_drewN | apply below_drew1 | refine below_set ?_ GE599.out) | exact HB.out)) : P := h
theorem q9_6 {P : Prop} (h : P := by (try simp only [List.map_toArray, List.map_cons, List.map_nil]); first | done | rfl | (simp only [List.length_drop, List.length_take]; rfl)) : P := h
theorem q9_7 {P : Prop} (h : P := by repeat (first | (with_reducible first | exact HB.out | apply below_alloc | apply pw_below_drewN | apply below_drew1) | exact HB.out)) : P := h
theorem q9_8 {P : Prop} (h : P := by (with_reducible repeat (first | refine blk_drewN ?_ _ | refine blk_drew ?_ | refine blk_alloc ?_ _)); exact BK599.out) : P := h
theorem q9_9 {P : Prop} (h : P := by (with_reducible repeat (first | refine blk_drewN ?_ _ | refine blk_drew ?_ | refine blk_alloc ?_ _)); exact BK600.out) : P := h
theorem q9_10 {P : Prop} (h : P := by (with_reducible repeat (first | refine blk_drewN ?_ _ | refine blk_drew ?_ | refine blk_alloc ?_ _)); exact BK602.out) : P := h
theorem q9_11 {P : Prop} (h : P := by (with_reducible repeat (first | apply Kd.R_alloc | apply Kd.R_drewN | apply Kd.R_drew)); exact HO_603001.out) : P := h
theorem q9_12 {P : Prop} (h : P := by first | rfl | (simp; done) | (simp [*]; done) | (simp [i64_w, i32_w]; done)) : P := h
theorem q9_13 {P : Prop} (h : P := by first | (with_reducible assumption) | assumption) : P := h
theorem q9_14 {P : Prop} (h : P := by kernel_rfl) : P := h
mutual
def spec_Clarify.l0 : Nat → Int → Int → List Int → Int → List Int → Option (Int × List Int × Bool)
 | 0, _, _, _, _, _ => none
 | k + 1, x5, x600000, x600001, x603000, x603001 => if x5 < (x600001.length : Int) then (if 0 ≤ x5 then ((spec_l2In.f k x603001 (rd x600001 x5)).bind fun t604 => (if t604 = true then (spec_Clarify.l0 k (wrap64 (x5 + 1)) x600000 x600001 x603000 x603001) else (if x603001.length < 17592186044416 then (spec_Clarify.l0 k (wrap64 (x5 + 1)) x600000 x600001 x603000 (x603001 ++ [rd x600001 x5])) else (none)))) else (none)) else (spec_Clarify.l1 k 0 0 x603000 x603001)
def spec_Clarify.l1 : Nat → Int → Int → Int → List Int → Option (Int × List Int × Bool)
 | 0, _, _, _, _ => none
 | k + 1, x6, x7, x603000, x603001 => if x7 < x603000 then (spec_Clarify.l2 k x6 x7 0 x603000 x603001) else ((spec_DropAttributes.f k x603000 x603001 x6).bind fun bt609 => (some (bt609.1, bt609.2.1, bt609.2.2)))
def spec_Clarify.l2 : Nat → Int → Int → Int → Int → List Int → Option (Int × List Int × Bool)
 | 0, _, _, _, _, _ => none
 | k + 1, x6, x7, x8, x603000, x603001 => if x8 < x7 then ((spec_l3Column.f k x603000 x603001 x8).bind fun t615 => ((spec_l3Column.f k x603000 x603001 x7).bind fun t616 => (if t615 = t616 then (if 0 ≤ (IntKind.u64.wrap (x7)) then (spec_Clarify.l2 k (Go.bits .or .i64 x6 (shl .i64 1 (IntKind.u64.wrap (x7)))) x7 (wrap64 (x8 + 1)) x603000 x603001) else (none)) else (spec_Clarify.l2 k x6 x7 (wrap64 (x8 + 1)) x603000 x603001)))) else (spec_Clarify.l1 k x6 (wrap64 (x7 + 1)) x603000 x603001)
end
def spec_Clarify.f (k : Nat) (a0_0 : Int) (l0_1 : List Int) : Option (Int × List Int × Bool) := (spec_IsContext.f k a0_0 l0_1).bind fun t601 => (if t601 = true then (spec_Clarify.l0 k 0 a0_0 l0_1 a0_0 ([] : List Int)) else (some (0, ([] : List Int), false)))
def spec_Clarify.T7 : Bool × List (List Nat × List Nat) := (true, [([], []), ([0], [0]), ([], []), ([2], [2]), ([], []), ([3, 4], [3, 4]), ([5], [5]), ([1, 6], [1, 6]), ([7], [7])])
def spec_Clarify.B7 : List Nat := [0, 1, 0, 4, 0, 28, 60, 127, 255]
theorem spec_Clarify.tab7 : rtab .any (opsOf Try.f41 7) = spec_Clarify.T7 := q9_14
theorem spec_Clarify.bits7 : waitsOk spec_Clarify.T7.2 spec_Clarify.B7 = true := q9_14
def spec_Clarify.T8 : Bool × List (List Nat × List Nat) := (true, [([], []), ([0], [0]), ([], []), ([2], [2]), ([], []), ([3, 4], [3, 4]), ([5], [5]), ([6], [6]), ([1, 7], [1, 7]), ([0, 1, 2, 3, 4, 5, 6, 7, 8], []), ([9, 8, 8, 0, 1, 2, 3, 4, 5, 6, 7, 8], [8, 9])])
def spec_Clarify.B8 : List Nat := [0, 1, 0, 4, 0, 28, 60, 124, 255, 511, 1023]
theorem spec_Clarify.tab8 : rtab .any (opsOf Try.f41 8) = spec_Clarify.T8 := q9_14
theorem spec_Clarify.bits8 : waitsOk spec_Clarify.T8.2 spec_Clarify.B8 = true := q9_14
set_option maxHeartbeats 8000000 in
set_option maxRecDepth 100000 in
theorem spec_Clarify.calls (k : Nat) (a0_0 : Int) (A0_1 : Option Addr) (c0_1 : Nat) (l0_1 : List Int) (r1 : Int) (r2 : List Int) (r3 : Bool) (w : World) (hr0_1 : Kd.C (Kd.int .i64) w A0_1 l0_1.length l0_1) (hc0_1 : l0_1.length ≤ c0_1) (h : spec_Clarify.f k a0_0 l0_1 = some (r1, r2, r3)) :
  Calls Try.prog 41 #[.agg #[.int .i64 a0_0, .slice A0_1 l0_1.length c0_1]] w fun e w' => ∃ v1_ : Value, e = .returned (.tuple #[.agg #[.int .i64 r1, v1_], .bool r3]) ∧ Kd.R (Kd.int .i64) 3 w' w.heap.size (fun _ => True) v1_ r2 ∧ Below w.heap.size w w' := by
 have hu27 := Try.underlying27
 have HR0_1 := Aside0.mk hr0_1
 have HC0_1 := Aside0.mk hc0_1
 clear hr0_1 hc0_1
 have HB := Aside0.mk (Below.refl w.heap.size w)
 have H : ((spec_IsContext.f k a0_0 l0_1).bind fun t601 => (if t601 = true then (spec_Clarify.l0 k 0 a0_0 l0_1 a0_0 ([] : List Int)) else (some (0, ([] : List Int), false)))) = some (r1, r2, r3) := h
 clear h
 replace H := Option.bind_eq_some_iff.mp H
 obtain ⟨t601, A20, H⟩ := H
 replace H : (if t601 = true then (spec_Clarify.l0 k 0 a0_0 l0_1 a0_0 ([] : List Int)) else (some (0, ([] : List Int), false))) = some (r1, r2, r3) := H
 have A2 := Aside0.mk A20
 clear A20
 by_cases c3 : t601 = true
 ·
  subst c3
  have H1 : (spec_Clarify.l0 k 0 a0_0 l0_1 a0_0 ([] : List Int)) = some (r1, r2, r3) := by rw [if_pos rfl] at H; exact H
  clear H
  have H := H1
  clear H1
  have H' := Aside0.mk H
  clear H
  go_enter Try.func41, Try.ntmps41
  go_wp2_with (first | ((with_reducible refine gate_dst (N := 1) rfl ?_); refine box_event ?hg (N := 1) ?hd (cs := #[.int .i64 a0_0, .slice A0_1 l0_1.length c0_1]) (t := 27) ?hr ?_; (case hd => rfl); (case hg => rfl); (case hr => first | (go_simp; done) | (go_simp; rfl)); intro gb599 hg w4 hbox hb; have n0_ := Aside0.mk (below_step q9_7 hb); have n1_ := Aside0.mk (hbox); have n2_ := Aside0.mk ((by rw [hg]; exact (below_size q9_7) : w.heap.size ≤ gb599)); have n3_ := Aside0.mk ((by rw [hg]; exact (below_size q9_7) : w.heap.size ≤ gb599)); clear HB; have HB := n0_; have BK599 := n1_; have GW599 := n2_; have GE599 := n3_; clear n0_ n1_ n2_ n3_; clear hb hbox hg) | ((with_reducible refine gate_dst (N := 2) rfl ?_); refine box_event ?hg (N := 2) ?hd (cs := #[.int .i64 0, .slice none 0 0]) (t := 27) ?hr ?_; (case hd => rfl); (case hg => rfl); (case hr => first | (go_simp; done) | (go_simp; rfl)); intro gb600 hg w5 hbox hb; have n0_ := Aside0.mk (blk_below (g := gb599) (o := .cells #[.int .i64 a0_0, .slice A0_1 l0_1.length c0_1] 27 (0, 0)) q9_8 hb); have n1_ := Aside0.mk (below_step q9_5 hb); have n2_ := Aside0.mk (hbox); have n3_ := Aside0.mk ((by rw [hg]; exact (below_size q9_5) : w.heap.size ≤ gb600)); have n4_ := Aside0.mk ((by rw [hg]; exact (below_size q9_5) : w.heap.size ≤ gb600)); have n5_ := Aside0.mk ((by rw [hg]; exact Nat.ne_of_lt (blk_lt (g := gb599) (o := .cells #[.int .i64 a0_0, .slice A0_1 l0_1.length c0_1] 27 (0, 0)) q9_8) : gb599 ≠ gb600)); have n6_ := Aside0.mk ((by rw [hg]; exact Nat.ne_of_gt (blk_lt (g := gb599) (o := .cells #[.int .i64 a0_0, .slice A0_1 l0_1.length c0_1] 27 (0, 0)) q9_8) : gb600 ≠ gb599)); clear BK599; clear HB; have BK599 := n0_; have HB := n1_; have BK600 := n2_; have GW600 := n3_; have GE600 := n4_; have NB599_600 := n5_; have NB600_599 := n6_; clear n0_ n1_ n2_ n3_ n4_ n5_ n6_; clear hb hbox hg; have hnb6 := NB599_600.out; have hnc6 := NB600_599.out; have hcz7_0 : w5.cell? ⟨gb599, 0, none⟩ = some (.int .i64 a0_0) := (blk_cell BK599.out 0).trans rfl; have hcz7_1 : w5.cell? ⟨gb599, 1, none⟩ = some (.slice A0_1 l0_1.length c0_1) := (blk_cell BK599.out 1).trans rfl; have hfz7_0 := blk_frozen BK599.out 0; have hfz7_1 := blk_frozen BK599.out 1) | ((with_reducible refine gate_callee (f := 46) rfl ?_); refine goesL_ (some 12) rfl rfl Try.func46 q9_14 rfl #[.agg #[.int .i64 a0_0, .slice A0_1 l0_1.length c0_1]] rfl q9_6 ?_; (with_reducible refine (spec_IsContext.calls k a0_0 _ _ l0_1 true _ ?side1 ?side2 A2.out).mono ?_); (case side1 => exact q9_4); (case side2 => exact HC0_1.out); rintro e w8 ⟨rfl, hb⟩; refine ⟨_, rfl, ?_⟩; have n0_ := Aside0.mk (blk_below (g := gb599) (o := .cells #[.int .i64 a0_0, .slice A0_1 l0_1.length c0_1] 27 (0, 0)) q9_8 hb); have n1_ := Aside0.mk (blk_below (g := gb600) (o := .cells #[.int .i64 0, .slice none 0 0] 27 (0, 0)) q9_9 hb); have n2_ := Aside0.mk (below_step q9_2 hb); clear BK599; clear BK600; clear HB; have BK599 := n0_; have BK600 := n1_; have HB := n2_; clear n0_ n1_ n2_; (try clear hb); (try clear hb2); (try clear hk); (try clear hi); have hcz9_0 : w8.cell? ⟨gb599, 0, none⟩ = some (.int .i64 a0_0) := (blk_cell BK599.out 0).trans rfl; have hcz9_1 : w8.cell? ⟨gb599, 1, none⟩ = some (.slice A0_1 l0_1.length c0_1) := (blk_cell BK599.out 1).trans rfl; have hfz9_0 := blk_frozen BK599.out 0; have hfz9_1 := blk_frozen BK599.out 1) | ((with_reducible refine gate_dst (N := 4) rfl ?_); refine box_event ?hg (N := 4) ?hd (cs := #[.int .i64 0, .slice none 0 0]) (t := 27) ?hr ?_; (case hd => rfl); (case hg => rfl); (case hr => first | (go_simp; done) | (go_simp; rfl)); intro gb602 hg w10 hbox hb; have n0_ := Aside0.mk (blk_below (g := gb599) (o := .cells #[.int .i64 a0_0, .slice A0_1 l0_1.length c0_1] 27 (0, 0)) q9_8 hb); have n1_ := Aside0.mk (blk_below (g := gb600) (o := .cells #[.int .i64 0, .slice none 0 0] 27 (0, 0)) q9_9 hb); have n2_ := Aside0.mk (below_step q9_2 hb); have n3_ := Aside0.mk (hbox); have n4_ := Aside0.mk ((by rw [hg]; exact (below_size q9_2) : w.heap.size ≤ gb602)); have n5_ := Aside0.mk ((by rw [hg]; exact (below_size q9_2) : w.heap.size ≤ gb602)); have n6_ := Aside0.mk ((by rw [hg]; exact Nat.ne_of_lt (blk_lt (g := gb599) (o := .cells #[.int .i64 a0_0, .slice A0_1 l0_1.length c0_1] 27 (0, 0)) q9_8) : gb599 ≠ gb602)); have n7_ := Aside0.mk ((by rw [hg]; exact Nat.ne_of_gt (blk_lt (g := gb599) (o := .cells #[.int .i64 a0_0, .slice A0_1 l0_1.length c0_1] 27 (0, 0)) q9_8) : gb602 ≠ gb599)); have n8_ := Aside0.mk ((by rw [hg]; exact Nat.ne_of_lt (blk_lt (g := gb600) (o := .cells #[.int .i64 0, .slice none 0 0] 27 (0, 0)) q9_9) : gb600 ≠ gb602)); have n9_ := Aside0.mk ((by rw [hg]; exact Nat.ne_of_gt (blk_lt (g := gb600) (o := .cells #[.int .i64 0, .slice none 0 0] 27 (0, 0)) q9_9) : gb602 ≠ gb600)); clear BK599; clear BK600; clear HB; have BK599 := n0_; have BK600 := n1_; have HB := n2_; have BK602 := n3_; have GW602 := n4_; have GE602 := n5_; have NB599_602 := n6_; have NB602_599 := n7_; have NB600_602 := n8_; have NB602_600 := n9_; clear n0_ n1_ n2_ n3_ n4_ n5_ n6_ n7_ n8_ n9_; clear hb hbox hg; have hnb11 := NB602_599.out; have hnc11 := NB599_602.out; have hnb12 := NB602_600.out; have hnc12 := NB600_602.out; have hcz13_0 : w10.cell? ⟨gb602, 0, none⟩ = some (.int .i64 0) := (blk_cell BK602.out 0).trans rfl; have hcz13_1 : w10.cell? ⟨gb602, 1, none⟩ = some (.slice none 0 0) := (blk_cell BK602.out 1).trans rfl; have hfz13_0 := blk_frozen BK602.out 0; have hfz13_1 := blk_frozen BK602.out 1))
  go_loopg [5] k (fun kq v5 w' => ∃ (x5_1 : Int) (x603001_1 : List Int) (u603001 : Value), v5 = .int .i64 x5_1 ∧ Aside0 (spec_Clarify.l0 kq x5_1 a0_0 l0_1 a0_0 x603001_1 = some (r1, r2, r3)) ∧ Aside0 (kq ≤ k) ∧ Aside0 (Kd.R (Kd.int .i64) 3 w' w.heap.size (fun _ => True) u603001 x603001_1) ∧ Aside0 (w'.heap[gb599]? = some (.cells #[.int .i64 a0_0, (.slice A0_1 l0_1.length c0_1)] 27 (0, 0))) ∧ Aside0 (w'.heap[gb600]? = some (.cells #[.int .i64 0, (.slice none 0 0)] 27 (0, 0))) ∧ Aside0 (w'.heap[gb602]? = some (.cells #[.int .i64 a0_0, u603001] 27 (0, 0))) ∧ Aside0 (Below w.heap.size w w'))
  case atStart => exact ⟨(0), (([] : List Int)), (.slice none 0 0), q9_12, H', ⟨Nat.le_refl _⟩, ⟨by first | exact Kd.R_nil _ _ _ _ _ | exact Kd.N_nil _ _ _ _ _ | exact Kd.V_nil _ _ _ _ _ | exact Kd.Q_nil _ _ _ _ _ | exact Kd.S_nil _ _ _ _ _⟩, ⟨by (with_reducible repeat (first | refine blk_drewN ?_ _ | refine blk_drew ?_ | refine blk_alloc ?_ _)); refine blk_far ?_ NB599_602.out _; (with_reducible repeat (first | refine blk_drewN ?_ _ | refine blk_drew ?_ | refine blk_alloc ?_ _)); refine blk_far ?_ NB599_602.out _; (with_reducible repeat (first | refine blk_drewN ?_ _ | refine blk_drew ?_ | refine blk_alloc ?_ _)); exact BK599.out⟩, ⟨by (with_reducible repeat (first | refine blk_drewN ?_ _ | refine blk_drew ?_ | refine blk_alloc ?_ _)); refine blk_far ?_ NB600_602.out _; (with_reducible repeat (first | refine blk_drewN ?_ _ | refine blk_drew ?_ | refine blk_alloc ?_ _)); refine blk_far ?_ NB600_602.out _; (with_reducible repeat (first | refine blk_drewN ?_ _ | refine blk_drew ?_ | refine blk_alloc ?_ _)); exact BK600.out⟩, ⟨by (with_reducible repeat (first | refine blk_drewN ?_ _ | refine blk_drew ?_ | refine blk_alloc ?_ _)); refine blk_put (cs := #[.int .i64 a0_0, .slice none 0 0]) ?_ 1 _ rfl; (with_reducible repeat (first | refine blk_drewN ?_ _ | refine blk_drew ?_ | refine blk_alloc ?_ _)); refine blk_put (cs := #[.int .i64 0, .slice none 0 0]) ?_ 0 _ rfl; (with_reducible repeat (first | refine blk_drewN ?_ _ | refine blk_drew ?_ | refine blk_alloc ?_ _)); exact BK602.out⟩, ⟨by repeat (first | (with_reducible first | exact HB.out | apply below_alloc | apply pw_below_drewN | apply below_drew1 | refine below_set ?_ GE599.out | refine below_set ?_ GE600.out | refine below_set ?_ GE602.out) | exact HB.out)⟩⟩
  case round =>
   clear H'
   try clear c1
   try clear p2
   try clear c3
   try clear c4
   try clear c6
   try clear c11
   try clear c12
   try clear hcz13_0
   try clear hcz13_1
   try clear hcz7_0
   try clear hcz7_1
   try clear hcz9_0
   try clear hcz9_1
   try clear hfz13_0
   try clear hfz13_1
   try clear hfz7_0
   try clear hfz7_1
   try clear hfz9_0
   try clear hfz9_1
   obtain ⟨x5_1, x603001_1, u603001, rfl, HA, HK1, HO_603001, BK599, BK600, BK602, HB⟩ := hrel
   cases gk with
   | zero => exact absurd HA.out (by simp [spec_Clarify.l0])
   | succ k1 =>
    have H := HA.out
    clear HA
    simp only [spec_Clarify.l0] at H
    by_cases c14 : x5_1 < (l0_1.length : Int)
    ·
     rw [if_pos c14] at H
     have c14b0 : decide (x5_1 < (l0_1.length : Int)) = true := decide_eq_true c14
     clear c14
     by_cases c15 : 0 ≤ x5_1
     ·
      rw [if_pos c15] at H
      have c15b0 : decide (0 ≤ x5_1) = true := decide_eq_true c15
      clear c15
      replace H := Option.bind_eq_some_iff.mp H
      obtain ⟨t604, A160, H⟩ := H
      replace H : (if t604 = true then (spec_Clarify.l0 k1 (wrap64 (x5_1 + 1)) a0_0 l0_1 a0_0 x603001_1) else (if x603001_1.length < 17592186044416 then (spec_Clarify.l0 k1 (wrap64 (x5_1 + 1)) a0_0 l0_1 a0_0 (x603001_1 ++ [rd l0_1 x5_1])) else (none))) = some (r1, r2, r3) := H
      have A16 := Aside0.mk A160
      clear A160
      by_cases c17 : t604 = true
      ·
       subst c17
       have H1 : (spec_Clarify.l0 k1 (wrap64 (x5_1 + 1)) a0_0 l0_1 a0_0 x603001_1) = some (r1, r2, r3) := by rw [if_pos rfl] at H; exact H
       clear H
       have H := H1
       clear H1
       have H' := Aside0.mk H
       clear H
       have hnb18 := NB599_600.out
       have hnc18 := NB600_599.out
       have hnb19 := NB599_602.out
       have hnc19 := NB602_599.out
       have hcz20_0 : wr.cell? ⟨gb599, 0, none⟩ = some (.int .i64 a0_0) := (blk_cell BK599.out 0).trans rfl
       have hcz20_1 : wr.cell? ⟨gb599, 1, none⟩ = some (.slice A0_1 l0_1.length c0_1) := (blk_cell BK599.out 1).trans rfl
       have hfz20_0 := blk_frozen BK599.out 0
       have hfz20_1 := blk_frozen BK599.out 1
       try go_wp2
       have n0_ := Aside0.mk (Kd.R_drew HO_603001.out)
       have n1_ := Aside0.mk (blk_drew BK599.out)
       have n2_ := Aside0.mk (blk_drew BK600.out)
       have n3_ := Aside0.mk (blk_drew BK602.out)
       have n4_ := Aside0.mk (below_drew1 HB.out)
       clear HO_603001
       clear BK599
       clear BK600
       clear BK602
       clear HB
       have HO_603001 := n0_
       have BK599 := n1_
       have BK600 := n2_
       have BK602 := n3_
       have HB := n4_
       clear n0_ n1_ n2_ n3_ n4_
       have p603 : 0 ≤ (x5_1 : Int) := of_decide_eq_true q9_13
       have q603 : x5_1 < (l0_1.length : Int) := of_decide_eq_true q9_13
       obtain ⟨ad603, e603, hx603_0⟩ := Kd.at_int HR0_1.out x5_1 p603 q603
       have hw603_0 := hx603_0
       cases e603
       replace hx603_0 := (HB.out.cell (World.block_lt_of_cell? w _ hx603_0)).trans hx603_0
       replace p603 := eq_true p603
       replace q603 := eq_true q603
       obtain ⟨Ao22, co22, eo22⟩ := Kd.R_slice HO_603001.out
       (first | subst eo22 | (injection eo22 with f1_ f2_ f3_; have f4_ := f1_.symm; have f5_ := f3_.symm; clear f1_ f2_ f3_; subst f4_; subst f5_))
       refine start_ (n := 9) (S := fun w' => w'.cell? ⟨gb602, 0, none⟩ = some (.int .i64 a0_0) ∧ w'.cell? ⟨gb602, 1, none⟩ = some (.slice Ao22 x603001_1.length co22) ∧ w'.cell? ⟨gb599, 0, none⟩ = some (.int .i64 a0_0) ∧ w'.cell? ⟨gb599, 1, none⟩ = some (.slice (some ad603) l0_1.length c0_1) ∧ w'.cell? (ad603.add (x5_1).toNat) = some (.int .i64 (rd l0_1 x5_1))) (ds := []) #[false, false, false, false, false, false, false, false, false] q9_14 rfl rfl ⟨(blk_cell BK602.out 0).trans rfl, (blk_cell BK602.out 1).trans rfl, (blk_cell BK599.out 0).trans rfl, (blk_cell BK599.out 1).trans rfl, ((HB.out.cell (World.block_lt_of_cell? w _ hw603_0)).trans hw603_0)⟩ (fun hHeld => ?_); refine with_tabW spec_Clarify.tab7 spec_Clarify.bits7 (fun HT_ HW_ => ?_)
       generalize wr.drew = w21 at HO_603001 BK599 BK600 BK602 HB hx603_0 hHeld ⊢
       refine pure_ (i := 0) (N := some 25) (v := ?_) (a' := ?_) #[true, false, false, false, false, false, false, false, false] rfl rfl (any_of HT_.out q9_14) (fun _ _ _ h => h) (Or.inl ⟨by rfl, ?_⟩) ?_ ?_
       rotate_left
       ·
        intro w'
        go_simp
        with_reducible rfl
       rotate_left
       ·
        exact put9_
       refine pure_ (i := 2) (N := some 27) (v := ?_) (a' := ?_) #[true, false, true, false, false, false, false, false, false] rfl rfl (any_of HT_.out q9_14) (fun _ _ _ h => h) (Or.inl ⟨by rfl, ?_⟩) ?_ ?_
       rotate_left
       ·
        intro w'
        go_simp
        with_reducible rfl
       rotate_left
       ·
        exact put9_
       refine pure_ (i := 4) (N := some 29) (v := ?_) (a' := ?_) #[true, false, true, false, true, false, false, false, false] rfl rfl (any_of HT_.out q9_14) (fun _ _ _ h => h) (Or.inl ⟨by rfl, ?_⟩) ?_ ?_
       rotate_left
       ·
        intro w'
        go_simp
        with_reducible rfl
       rotate_left
       ·
        exact put9_
       refine take_ (i := 1) (N := some 26) (v := ?_) (a' := ?_) #[true, true, true, false, true, false, false, false, false] rfl rfl (take_ofW HT_.out HW_.out q9_14) (fun _ _ _ h => h) (Or.inl ⟨by rfl, ?_⟩) hHeld ?_ ?_
       rotate_left
       ·
        rintro w' ⟨s0, s1, s2, s3, s4⟩
        go_simp
        with_reducible rfl
       rotate_left
       ·
        exact put9_
       refine take_ (i := 3) (N := some 28) (v := ?_) (a' := ?_) #[true, true, true, true, true, false, false, false, false] rfl rfl (take_ofW HT_.out HW_.out q9_14) (fun _ _ _ h => h) (Or.inl ⟨by rfl, ?_⟩) hHeld ?_ ?_
       rotate_left
       ·
        rintro w' ⟨s0, s1, s2, s3, s4⟩
        go_simp
        with_reducible rfl
       rotate_left
       ·
        exact put9_
       refine pure_ (i := 5) (N := some 30) (v := ?_) (a' := ?_) #[true, true, true, true, true, true, false, false, false] rfl rfl (any_of HT_.out q9_14) (fun _ _ _ h => h) (Or.inl ⟨by rfl, ?_⟩) ?_ ?_
       rotate_left
       ·
        intro w'
        go_simp
        with_reducible rfl
       rotate_left
       ·
        exact put9_
       refine take_ (i := 6) (N := some 31) (v := ?_) (a' := ?_) #[true, true, true, true, true, true, true, false, false] rfl rfl (take_ofW HT_.out HW_.out q9_14) (fun _ _ _ h => h) (Or.inl ⟨by rfl, ?_⟩) hHeld ?_ ?_
       rotate_left
       ·
        rintro w' ⟨s0, s1, s2, s3, s4⟩
        go_simp
        with_reducible rfl
       rotate_left
       ·
        exact put9_
       refine one_ (i := 7) (N := some 32) #[true, true, true, true, true, true, true, true, false] rfl rfl (one_of HT_.out q9_14) (by decide) (fun K hK => ?_)
       refine goes_ Try.func77 q9_14 rfl #[.slice Ao22 x603001_1.length co22, .int .i64 (rd l0_1 x5_1)] (by rfl) rfl rfl q9_6 ?_
       with_reducible refine (spec_l2In.calls k1 _ _ x603001_1 (rd l0_1 x5_1) true _ ?side1 ?side2 A16.out).mono ?_
       (case side1 => exact q9_3)
       (case side2 => exact (Kd.R_reads' HO_603001.out).2.1)
       rintro e w' ⟨rfl, ⟨nd, rfl⟩⟩
       refine ⟨_, rfl, ?_⟩
       refine hK.out _ _ ⟨(blk_cell BK602.out 0).trans rfl, (blk_cell BK602.out 1).trans rfl, (blk_cell BK599.out 0).trans rfl, (blk_cell BK599.out 1).trans rfl, ((HB.out.cell (World.block_lt_of_cell? w _ hw603_0)).trans hw603_0)⟩ (fun hHeld => ?_)
       clear hK K
       refine norm_ (a' := ?_) ?_ ?_
       rotate_left
       ·
        show Act.put _ (some 32) _ = _
        exact put9_
       refine pure_ (i := 8) (N := some 33) (v := ?_) (a' := ?_) #[true, true, true, true, true, true, true, true, true] rfl rfl (any_of HT_.out q9_14) (fun _ _ _ h => h) (Or.inl ⟨by rfl, ?_⟩) ?_ ?_
       rotate_left
       ·
        intro w'
        go_simp
        with_reducible rfl
       rotate_left
       ·
        exact put9_
       refine done_ (done_of HT_.out q9_14) ?_
       try go_wp2
       go_roundg k1
       case measure => have := HK1.out; omega
       case rel => exact ⟨(wrap64 (x5_1 + 1)), (x603001_1), (.slice Ao22 x603001_1.length co22), q9_12, H', ⟨by have := HK1.out; omega⟩, ⟨by (with_reducible repeat (first | apply Kd.R_alloc | apply Kd.R_drewN | apply Kd.R_drew)); exact HO_603001.out⟩, ⟨by (with_reducible repeat (first | refine blk_drewN ?_ _ | refine blk_drew ?_ | refine blk_alloc ?_ _)); exact BK599.out⟩, ⟨by (with_reducible repeat (first | refine blk_drewN ?_ _ | refine blk_drew ?_ | refine blk_alloc ?_ _)); exact BK600.out⟩, ⟨by (with_reducible repeat (first | refine blk_drewN ?_ _ | refine blk_drew ?_ | refine blk_alloc ?_ _)); exact BK602.out⟩, ⟨by repeat (first | (with_reducible first | exact HB.out | apply below_alloc | apply pw_below_drewN | apply below_drew1 | refine below_set ?_ GE599.out | refine below_set ?_ GE600.out | refine below_set ?_ GE602.out) | exact HB.out)⟩⟩
      ·
       replace c17 := Bool.eq_false_iff.mpr c17
       subst c17
       have H1 : (if x603001_1.length < 17592186044416 then (spec_Clarify.l0 k1 (wrap64 (x5_1 + 1)) a0_0 l0_1 a0_0 (x603001_1 ++ [rd l0_1 x5_1])) else (none)) = some (r1, r2, r3) := by rw [if_neg (show ¬ (false = true) by decide)] at H; exact H
       clear H
       have H := H1
       clear H1
       by_cases c23 : x603001_1.length < 17592186044416
       ·
        rw [if_pos c23] at H
        have LMc23 := Aside0.mk c23
        clear c23
        obtain ⟨y606, hy606⟩ : ∃ y_ : List Int, y_ = (x603001_1 ++ [rd l0_1 x5_1]) := ⟨_, rfl⟩
        replace H : (spec_Clarify.l0 k1 (wrap64 (x5_1 + 1)) a0_0 l0_1 a0_0 y606) = some (r1, r2, r3) := by first | (rw [hy606]; with_reducible exact H) | (have H2_ := (Option.bind_some _ _).symm.trans H; rw [hy606]; with_reducible exact H2_) | (have H2_ := (Option.bind_some _ _).symm.trans H; with_reducible exact H2_) | with_reducible exact H | (rw [hy606]; exact H) | exact H
        have Ny606 := Aside0.mk hy606
        clear hy606
        have H' := Aside0.mk H
        clear H
        have hnb24 := NB599_600.out
        have hnc24 := NB600_599.out
        have hnb25 := NB599_602.out
        have hnc25 := NB602_599.out
        have hcz26_0 : wr.cell? ⟨gb599, 0, none⟩ = some (.int .i64 a0_0) := (blk_cell BK599.out 0).trans rfl
        have hcz26_1 : wr.cell? ⟨gb599, 1, none⟩ = some (.slice A0_1 l0_1.length c0_1) := (blk_cell BK599.out 1).trans rfl
        have hfz26_0 := blk_frozen BK599.out 0
        have hfz26_1 := blk_frozen BK599.out 1
        try go_wp2
        have n0_ := Aside0.mk (Kd.R_drew HO_603001.out)
        have n1_ := Aside0.mk (blk_drew BK599.out)
        have n2_ := Aside0.mk (blk_drew BK600.out)
        have n3_ := Aside0.mk (blk_drew BK602.out)
        have n4_ := Aside0.mk (below_drew1 HB.out)
        clear HO_603001
        clear BK599
        clear BK600
        clear BK602
        clear HB
        have HO_603001 := n0_
        have BK599 := n1_
        have BK600 := n2_
        have BK602 := n3_
        have HB := n4_
        clear n0_ n1_ n2_ n3_ n4_
        have p603 : 0 ≤ (x5_1 : Int) := of_decide_eq_true q9_13
        have q603 : x5_1 < (l0_1.length : Int) := of_decide_eq_true q9_13
        obtain ⟨ad603, e603, hx603_0⟩ := Kd.at_int HR0_1.out x5_1 p603 q603
        have hw603_0 := hx603_0
        cases e603
        replace hx603_0 := (HB.out.cell (World.block_lt_of_cell? w _ hx603_0)).trans hx603_0
        replace p603 := eq_true p603
        replace q603 := eq_true q603
        obtain ⟨Ao28, co28, eo28⟩ := Kd.R_slice HO_603001.out
        (first | subst eo28 | (injection eo28 with f1_ f2_ f3_; have f4_ := f1_.symm; have f5_ := f3_.symm; clear f1_ f2_ f3_; subst f4_; subst f5_))
        refine start_ (n := 9) (S := fun w' => w'.cell? ⟨gb602, 0, none⟩ = some (.int .i64 a0_0) ∧ w'.cell? ⟨gb602, 1, none⟩ = some (.slice Ao28 x603001_1.length co28) ∧ w'.cell? ⟨gb599, 0, none⟩ = some (.int .i64 a0_0) ∧ w'.cell? ⟨gb599, 1, none⟩ = some (.slice (some ad603) l0_1.length c0_1) ∧ w'.cell? (ad603.add (x5_1).toNat) = some (.int .i64 (rd l0_1 x5_1))) (ds := []) #[false, false, false, false, false, false, false, false, false] q9_14 rfl rfl ⟨(blk_cell BK602.out 0).trans rfl, (blk_cell BK602.out 1).trans rfl, (blk_cell BK599.out 0).trans rfl, (blk_cell BK599.out 1).trans rfl, ((HB.out.cell (World.block_lt_of_cell? w _ hw603_0)).trans hw603_0)⟩ (fun hHeld => ?_); refine with_tabW spec_Clarify.tab7 spec_Clarify.bits7 (fun HT_ HW_ => ?_)
        generalize wr.drew = w27 at HO_603001 BK599 BK600 BK602 HB hx603_0 hHeld ⊢
        refine pure_ (i := 0) (N := some 25) (v := ?_) (a' := ?_) #[true, false, false, false, false, false, false, false, false] rfl rfl (any_of HT_.out q9_14) (fun _ _ _ h => h) (Or.inl ⟨by rfl, ?_⟩) ?_ ?_
        rotate_left
        ·
         intro w'
         go_simp
         with_reducible rfl
        rotate_left
        ·
         exact put9_
        refine pure_ (i := 2) (N := some 27) (v := ?_) (a' := ?_) #[true, false, true, false, false, false, false, false, false] rfl rfl (any_of HT_.out q9_14) (fun _ _ _ h => h) (Or.inl ⟨by rfl, ?_⟩) ?_ ?_
        rotate_left
        ·
         intro w'
         go_simp
         with_reducible rfl
        rotate_left
        ·
         exact put9_
        refine pure_ (i := 4) (N := some 29) (v := ?_) (a' := ?_) #[true, false, true, false, true, false, false, false, false] rfl rfl (any_of HT_.out q9_14) (fun _ _ _ h => h) (Or.inl ⟨by rfl, ?_⟩) ?_ ?_
        rotate_left
        ·
         intro w'
         go_simp
         with_reducible rfl
        rotate_left
        ·
         exact put9_
        refine take_ (i := 1) (N := some 26) (v := ?_) (a' := ?_) #[true, true, true, false, true, false, false, false, false] rfl rfl (take_ofW HT_.out HW_.out q9_14) (fun _ _ _ h => h) (Or.inl ⟨by rfl, ?_⟩) hHeld ?_ ?_
        rotate_left
        ·
         rintro w' ⟨s0, s1, s2, s3, s4⟩
         go_simp
         with_reducible rfl
        rotate_left
        ·
         exact put9_
        refine take_ (i := 3) (N := some 28) (v := ?_) (a' := ?_) #[true, true, true, true, true, false, false, false, false] rfl rfl (take_ofW HT_.out HW_.out q9_14) (fun _ _ _ h => h) (Or.inl ⟨by rfl, ?_⟩) hHeld ?_ ?_
        rotate_left
        ·
         rintro w' ⟨s0, s1, s2, s3, s4⟩
         go_simp
         with_reducible rfl
        rotate_left
        ·
         exact put9_
        refine pure_ (i := 5) (N := some 30) (v := ?_) (a' := ?_) #[true, true, true, true, true, true, false, false, false] rfl rfl (any_of HT_.out q9_14) (fun _ _ _ h => h) (Or.inl ⟨by rfl, ?_⟩) ?_ ?_
        rotate_left
        ·
         intro w'
         go_simp
         with_reducible rfl
        rotate_left
        ·
         exact put9_
        refine take_ (i := 6) (N := some 31) (v := ?_) (a' := ?_) #[true, true, true, true, true, true, true, false, false] rfl rfl (take_ofW HT_.out HW_.out q9_14) (fun _ _ _ h => h) (Or.inl ⟨by rfl, ?_⟩) hHeld ?_ ?_
        rotate_left
        ·
         rintro w' ⟨s0, s1, s2, s3, s4⟩
         go_simp
         with_reducible rfl
        rotate_left
        ·
         exact put9_
        refine one_ (i := 7) (N := some 32) #[true, true, true, true, true, true, true, true, false] rfl rfl (one_of HT_.out q9_14) (by decide) (fun K hK => ?_)
        refine goes_ Try.func77 q9_14 rfl #[.slice Ao28 x603001_1.length co28, .int .i64 (rd l0_1 x5_1)] (by rfl) rfl rfl q9_6 ?_
        with_reducible refine (spec_l2In.calls k1 _ _ x603001_1 (rd l0_1 x5_1) false _ ?side1 ?side2 A16.out).mono ?_
        (case side1 => exact q9_3)
        (case side2 => exact (Kd.R_reads' HO_603001.out).2.1)
        rintro e w' ⟨rfl, ⟨nd, rfl⟩⟩
        refine ⟨_, rfl, ?_⟩
        refine hK.out _ _ ⟨(blk_cell BK602.out 0).trans rfl, (blk_cell BK602.out 1).trans rfl, (blk_cell BK599.out 0).trans rfl, (blk_cell BK599.out 1).trans rfl, ((HB.out.cell (World.block_lt_of_cell? w _ hw603_0)).trans hw603_0)⟩ (fun hHeld => ?_)
        clear hK K
        refine norm_ (a' := ?_) ?_ ?_
        rotate_left
        ·
         show Act.put _ (some 32) _ = _
         exact put9_
        refine pure_ (i := 8) (N := some 33) (v := ?_) (a' := ?_) #[true, true, true, true, true, true, true, true, true] rfl rfl (any_of HT_.out q9_14) (fun _ _ _ h => h) (Or.inl ⟨by rfl, ?_⟩) ?_ ?_
        rotate_left
        ·
         intro w'
         go_simp
         with_reducible rfl
        rotate_left
        ·
         exact put9_
        refine done_ (done_of HT_.out q9_14) ?_
        try go_wp2
        (try (rw [drewN_self w27]; generalize hq_ : World.drewN w27 _ = w27; have n0_ : Aside0 (Kd.R (Kd.int .i64) 3 w27 w.heap.size (fun _ => True) (.slice Ao28 x603001_1.length co28) x603001_1) := ⟨by rw [← hq_]; exact q9_11⟩; have n1_ : Aside0 (w27.heap[gb599]? = some (.cells #[.int .i64 a0_0, .slice (some ad603) l0_1.length c0_1] 27 (0, 0))) := ⟨by rw [← hq_]; exact q9_8⟩; have n2_ : Aside0 (w27.heap[gb600]? = some (.cells #[.int .i64 0, .slice none 0 0] 27 (0, 0))) := ⟨by rw [← hq_]; exact q9_9⟩; have n3_ : Aside0 (w27.heap[gb602]? = some (.cells #[.int .i64 a0_0, .slice Ao28 x603001_1.length co28] 27 (0, 0))) := ⟨by rw [← hq_]; exact q9_10⟩; have n4_ : Aside0 (Below w.heap.size w w27) := ⟨by rw [← hq_]; exact q9_1⟩; clear HO_603001 BK599 BK600 BK602 HB hq_; have HO_603001 := n0_; have BK599 := n1_; have BK600 := n2_; have BK602 := n3_; have HB := n4_; clear n0_ n1_ n2_ n3_ n4_))
        have n0_ := Aside0.mk (Kd.R_drew HO_603001.out)
        have n1_ := Aside0.mk (blk_drew BK599.out)
        have n2_ := Aside0.mk (blk_drew BK600.out)
        have n3_ := Aside0.mk (blk_drew BK602.out)
        have n4_ := Aside0.mk (below_drew1 HB.out)
        clear HO_603001
        clear BK599
        clear BK600
        clear BK602
        clear HB
        have HO_603001 := n0_
        have BK599 := n1_
        have BK600 := n2_
        have BK602 := n3_
        have HB := n4_
        clear n0_ n1_ n2_ n3_ n4_
        have p605 : 0 ≤ (x5_1 : Int) := of_decide_eq_true q9_13
        have q605 : x5_1 < (l0_1.length : Int) := of_decide_eq_true q9_13
        obtain ⟨ad605, e605, hx605_0⟩ := Kd.at_int HR0_1.out x5_1 p605 q605
        have hw605_0 := hx605_0
        obtain rfl : ad603 = ad605 := (by injection e605)
        replace hx605_0 := (HB.out.cell (World.block_lt_of_cell? w _ hx605_0)).trans hx605_0
        replace p605 := eq_true p605
        replace q605 := eq_true q605
        refine start_ (n := 11) (S := fun w' => w'.cell? ⟨gb602, 0, none⟩ = some (.int .i64 a0_0) ∧ w'.cell? ⟨gb602, 1, none⟩ = some (.slice Ao28 x603001_1.length co28) ∧ w'.cell? ⟨gb599, 0, none⟩ = some (.int .i64 a0_0) ∧ w'.cell? ⟨gb599, 1, none⟩ = some (.slice (some ad603) l0_1.length c0_1) ∧ w'.cell? (ad603.add (x5_1).toNat) = some (.int .i64 (rd l0_1 x5_1))) (ds := [10]) #[false, false, false, false, false, false, false, false, false, false, false] q9_14 rfl rfl ⟨(blk_cell BK602.out 0).trans rfl, (blk_cell BK602.out 1).trans rfl, (blk_cell BK599.out 0).trans rfl, (blk_cell BK599.out 1).trans rfl, ((HB.out.cell (World.block_lt_of_cell? w _ hw605_0)).trans hw605_0)⟩ (fun hHeld => ?_); refine with_tabW spec_Clarify.tab8 spec_Clarify.bits8 (fun HT_ HW_ => ?_)
        generalize w27.drew = w29 at HO_603001 BK599 BK600 BK602 HB hx605_0 hHeld ⊢
        refine pure_ (i := 0) (N := some 34) (v := ?_) (a' := ?_) #[true, false, false, false, false, false, false, false, false, false, false] rfl rfl (any_of HT_.out q9_14) (fun _ _ _ h => h) (Or.inl ⟨by rfl, ?_⟩) ?_ ?_
        rotate_left
        ·
         intro w'
         go_simp
         with_reducible rfl
        rotate_left
        ·
         exact put9_
        refine pure_ (i := 2) (N := some 36) (v := ?_) (a' := ?_) #[true, false, true, false, false, false, false, false, false, false, false] rfl rfl (any_of HT_.out q9_14) (fun _ _ _ h => h) (Or.inl ⟨by rfl, ?_⟩) ?_ ?_
        rotate_left
        ·
         intro w'
         go_simp
         with_reducible rfl
        rotate_left
        ·
         exact put9_
        refine pure_ (i := 4) (N := some 38) (v := ?_) (a' := ?_) #[true, false, true, false, true, false, false, false, false, false, false] rfl rfl (any_of HT_.out q9_14) (fun _ _ _ h => h) (Or.inl ⟨by rfl, ?_⟩) ?_ ?_
        rotate_left
        ·
         intro w'
         go_simp
         with_reducible rfl
        rotate_left
        ·
         exact put9_
        refine take_ (i := 1) (N := some 35) (v := ?_) (a' := ?_) #[true, true, true, false, true, false, false, false, false, false, false] rfl rfl (take_ofW HT_.out HW_.out q9_14) (fun _ _ _ h => h) (Or.inl ⟨by rfl, ?_⟩) hHeld ?_ ?_
        rotate_left
        ·
         rintro w' ⟨s0, s1, s2, s3, s4⟩
         go_simp
         with_reducible rfl
        rotate_left
        ·
         exact put9_
        refine take_ (i := 3) (N := some 37) (v := ?_) (a' := ?_) #[true, true, true, true, true, false, false, false, false, false, false] rfl rfl (take_ofW HT_.out HW_.out q9_14) (fun _ _ _ h => h) (Or.inl ⟨by rfl, ?_⟩) hHeld ?_ ?_
        rotate_left
        ·
         rintro w' ⟨s0, s1, s2, s3, s4⟩
         go_simp
         with_reducible rfl
        rotate_left
        ·
         exact put9_
        refine pure_ (i := 5) (N := some 39) (v := ?_) (a' := ?_) #[true, true, true, true, true, true, false, false, false, false, false] rfl rfl (any_of HT_.out q9_14) (fun _ _ _ h => h) (Or.inl ⟨by rfl, ?_⟩) ?_ ?_
        rotate_left
        ·
         intro w'
         go_simp
         with_reducible rfl
        rotate_left
        ·
         exact put9_
        refine take_ (i := 6) (N := some 40) (v := ?_) (a' := ?_) #[true, true, true, true, true, true, true, false, false, false, false] rfl rfl (take_ofW HT_.out HW_.out q9_14) (fun _ _ _ h => h) (Or.inl ⟨by rfl, ?_⟩) hHeld ?_ ?_
        rotate_left
        ·
         rintro w' ⟨s0, s1, s2, s3, s4⟩
         go_simp
         with_reducible rfl
        rotate_left
        ·
         exact put9_
        refine one_ (i := 7) (N := some 41) #[true, true, true, true, true, true, true, true, false, false, false] rfl rfl (one_of HT_.out q9_14) (by decide) (fun K hK => ?_)
        refine value_ (w1 := ?_) (v := ?_) (by rfl) rfl ?_ ?_
        rotate_left 2
        ·
         go_simp
         constructor
         ·
          rfl
         ·
          rfl
        refine hK.out _ _ ⟨(blk_cell (blk_alloc BK602.out _) 0).trans rfl, (blk_cell (blk_alloc BK602.out _) 1).trans rfl, (blk_cell (blk_alloc BK599.out _) 0).trans rfl, (blk_cell (blk_alloc BK599.out _) 1).trans rfl, (World.cell?_alloc_lt _ _ _ (World.block_lt_of_cell? _ _ (((HB.out.cell (World.block_lt_of_cell? w _ hw605_0)).trans hw605_0)))).trans (((HB.out.cell (World.block_lt_of_cell? w _ hw605_0)).trans hw605_0))⟩ (fun hHeld => ?_)
        clear hK K
        refine norm_ (a' := ?_) ?_ ?_
        rotate_left
        ·
         show Act.put _ (some 41) _ = _
         exact put9_
        refine one_ (i := 8) (N := some 42) #[true, true, true, true, true, true, true, true, true, false, false] rfl rfl (one_of HT_.out q9_14) (by decide) (fun K hK => ?_)
        refine Kd.R_append_step (Kd.int .i64) (w0 := w) w.heap.size (by rfl) (.tmp 35) (.tmp 41) 22 3 (.int .i64 0) 8 rfl Try.underlying22 info3 rfl (by decide) (by omega) (.slice Ao28 x603001_1.length co28) x603001_1 (rd l0_1 x5_1) [.int .i64 (rd l0_1 x5_1)] (fun _ => True) (fun _ => False) rfl rfl ?aP (fun _ hk => hk.elim) ?aF ?aO ?aB ?aS ?aL ?_
        (case aP => exact rfl)
        (case aB => exact q9_1)
        (case aF => exact (fun _ _ => trivial))
        (case aO => exact q9_11)
        (case aS => exact (below_size q9_1))
        (case aL => have := LMc23.out; omega)
        intro v607 w30 ho hb hg hat
        rw [← Ny606.out] at ho
        have n0_ := Aside0.mk (blk_grown (g := gb599) (o := .cells #[.int .i64 a0_0, .slice (some ad603) l0_1.length c0_1] 27 (0, 0)) q9_8 hg (Kd.R_ne HO_603001.out BK599.out (by decide)))
        have n1_ := Aside0.mk (blk_grown (g := gb600) (o := .cells #[.int .i64 0, .slice none 0 0] 27 (0, 0)) q9_9 hg (Kd.R_ne HO_603001.out BK600.out (by decide)))
        have n2_ := Aside0.mk (blk_grown (g := gb602) (o := .cells #[.int .i64 a0_0, .slice Ao28 x603001_1.length co28] 27 (0, 0)) q9_10 hg (Kd.R_ne HO_603001.out BK602.out (by decide)))
        have n3_ := Aside0.mk (hb)
        have n4_ := Aside0.mk (ho)
        clear BK599
        clear BK600
        clear BK602
        clear HB
        clear HO_603001
        have BK599 := n0_
        have BK600 := n1_
        have BK602 := n2_
        have HB := n3_
        have HO608 := n4_
        clear n0_ n1_ n2_ n3_ n4_
        clear ho hb hg hat
        obtain ⟨Ao31, co31, eo31⟩ := Kd.R_slice HO608.out
        (first | subst eo31 | (injection eo31 with f1_ f2_ f3_; have f4_ := f1_.symm; have f5_ := f3_.symm; clear f1_ f2_ f3_; subst f4_; subst f5_))
        refine hK.out _ _ ⟨(blk_cell BK602.out 0).trans rfl, (blk_cell BK602.out 1).trans rfl, (blk_cell BK599.out 0).trans rfl, (blk_cell BK599.out 1).trans rfl, ((HB.out.cell (World.block_lt_of_cell? w _ hw605_0)).trans hw605_0)⟩ (fun hHeld => ?_)
        clear hK K
        refine norm_ (a' := ?_) ?_ ?_
        rotate_left
        ·
         show Act.put _ (some 42) _ = _
         exact put9_
        refine pure_ (i := 9) (N := some 43) (v := ?_) (a' := ?_) #[true, true, true, true, true, true, true, true, true, true, false] rfl rfl (any_of HT_.out q9_14) (fun _ _ _ h => h) (Or.inl ⟨by rfl, ?_⟩) ?_ ?_
        rotate_left
        ·
         intro w'
         go_simp
         with_reducible rfl
        rotate_left
        ·
         exact put9_
        refine last_ (i := 10) (N := none) #[true, true, true, true, true, true, true, true, true, true, true] rfl rfl (one_of HT_.out q9_14) (by decide) (fun K hK => ?_)
        have hs32 : w30.cell? ⟨gb602, 1, none⟩ = some (.slice Ao28 x603001_1.length co28) := (blk_cell BK602.out 1).trans rfl
        have hfs32 := blk_frozen BK602.out 1
        have hns32_0 := NB599_602.out
        have hns32_1 := NB600_602.out
        have hms32_0 := NB602_599.out
        have hms32_1 := NB602_600.out
        refine skip_ (w1 := ?_) (by rfl) rfl ?_ ?_
        rotate_left
        ·
         go_simp
         rfl
        refine hK.out _ _ ?_
        clear hK K
        refine done_ (done_of HT_.out q9_14) ?_
        try go_wp2
        go_roundg k1
        case measure => have := HK1.out; omega
        case rel => exact ⟨(wrap64 (x5_1 + 1)), (y606), (.slice Ao31 y606.length co31), q9_12, H', ⟨by have := HK1.out; omega⟩, ⟨by (with_reducible repeat (first | apply Kd.R_alloc | apply Kd.R_drewN | apply Kd.R_drew)); exact Kd.R_mono (Kd.R_far (p := ⟨gb602, 1, none⟩) (Kd.R_types HO608.out BK602.out (by decide)) (fun _ hk => hk.2) (.slice Ao31 y606.length co31)) (fun _ hk => trivial)⟩, ⟨by (with_reducible repeat (first | refine blk_drewN ?_ _ | refine blk_drew ?_ | refine blk_alloc ?_ _)); refine blk_far ?_ NB599_602.out _; (with_reducible repeat (first | refine blk_drewN ?_ _ | refine blk_drew ?_ | refine blk_alloc ?_ _)); exact BK599.out⟩, ⟨by (with_reducible repeat (first | refine blk_drewN ?_ _ | refine blk_drew ?_ | refine blk_alloc ?_ _)); refine blk_far ?_ NB600_602.out _; (with_reducible repeat (first | refine blk_drewN ?_ _ | refine blk_drew ?_ | refine blk_alloc ?_ _)); exact BK600.out⟩, ⟨by (with_reducible repeat (first | refine blk_drewN ?_ _ | refine blk_drew ?_ | refine blk_alloc ?_ _)); refine blk_put (cs := #[.int .i64 a0_0, .slice Ao28 x603001_1.length co28]) ?_ 1 _ rfl; (with_reducible repeat (first | refine blk_drewN ?_ _ | refine blk_drew ?_ | refine blk_alloc ?_ _)); exact BK602.out⟩, ⟨by repeat (first | (with_reducible first | exact HB.out | apply below_alloc | apply pw_below_drewN | apply below_drew1 | refine below_set ?_ GE599.out | refine below_set ?_ GE600.out | refine below_set ?_ GE602.out) | exact HB.out)⟩⟩
       ·
        rw [if_neg c23] at H
        exact absurd H (by simp)
     ·
      rw [if_neg c15] at H
      exact absurd H (by simp)
    ·
     rw [if_neg c14] at H
     have c14b0 : decide (x5_1 < (l0_1.length : Int)) = false := decide_eq_false c14
     clear c14
     have H' := Aside0.mk H
     clear H
     have hnb33 := NB599_600.out
     have hnc33 := NB600_599.out
     have hnb34 := NB599_602.out
     have hnc34 := NB602_599.out
     have hcz35_0 : wr.cell? ⟨gb599, 0, none⟩ = some (.int .i64 a0_0) := (blk_cell BK599.out 0).trans rfl
     have hcz35_1 : wr.cell? ⟨gb599, 1, none⟩ = some (.slice A0_1 l0_1.length c0_1) := (blk_cell BK599.out 1).trans rfl
     have hfz35_0 := blk_frozen BK599.out 0
     have hfz35_1 := blk_frozen BK599.out 1
     go_wp2
     go_loopg [6, 7] k1 (fun kq v6 v7 w' => ∃ (x6_2 : Int) (x7_2 : Int), v6 = .int .i64 x6_2 ∧ v7 = .int .i64 x7_2 ∧ Aside0 (spec_Clarify.l1 kq x6_2 x7_2 a0_0 x603001_1 = some (r1, r2, r3)) ∧ Aside0 (kq ≤ k1) ∧ Aside0 (Kd.R (Kd.int .i64) 3 w' w.heap.size (fun _ => True) u603001 x603001_1) ∧ Aside0 (w'.heap[gb599]? = some (.cells #[.int .i64 a0_0, (.slice A0_1 l0_1.length c0_1)] 27 (0, 0))) ∧ Aside0 (w'.heap[gb600]? = some (.cells #[.int .i64 0, (.slice none 0 0)] 27 (0, 0))) ∧ Aside0 (w'.heap[gb602]? = some (.cells #[.int .i64 a0_0, u603001] 27 (0, 0))) ∧ Aside0 (Below w.heap.size w w'))
     case atStart => exact ⟨(0), (0), q9_12, q9_12, H', ⟨Nat.le_refl _⟩, ⟨by (with_reducible repeat (first | apply Kd.R_alloc | apply Kd.R_drewN | apply Kd.R_drew)); exact HO_603001.out⟩, ⟨by (with_reducible repeat (first | refine blk_drewN ?_ _ | refine blk_drew ?_ | refine blk_alloc ?_ _)); exact BK599.out⟩, ⟨by (with_reducible repeat (first | refine blk_drewN ?_ _ | refine blk_drew ?_ | refine blk_alloc ?_ _)); exact BK600.out⟩, ⟨by (with_reducible repeat (first | refine blk_drewN ?_ _ | refine blk_drew ?_ | refine blk_alloc ?_ _)); exact BK602.out⟩, ⟨by repeat (first | (with_reducible first | exact HB.out | apply below_alloc | apply pw_below_drewN | apply below_drew1 | refine below_set ?_ GE599.out | refine below_set ?_ GE600.out | refine below_set ?_ GE602.out) | exact HB.out)⟩⟩
     case round =>
      clear H'
      try clear c1
      try clear c2
      try clear p2
      try clear c3
      try clear c4
      try clear c6
      try clear p6
      try clear q6
      try clear hx6
      try clear c7
      try clear c11
      try clear c12
      try clear c14
      try clear c14b0
      try clear c15
      try clear c15b0
      try clear c17
      try clear c18
      try clear c19
      try clear c23
      try clear c24
      try clear c25
      try clear c33
      try clear c34
      try clear hcz13_0
      try clear hcz13_1
      try clear hcz20_0
      try clear hcz20_1
      try clear hcz26_0
      try clear hcz26_1
      try clear hcz35_0
      try clear hcz35_1
      try clear hcz7_0
      try clear hcz7_1
      try clear hcz9_0
      try clear hcz9_1
      try clear hfz13_0
      try clear hfz13_1
      try clear hfz20_0
      try clear hfz20_1
      try clear hfz26_0
      try clear hfz26_1
      try clear hfz35_0
      try clear hfz35_1
      try clear hfz7_0
      try clear hfz7_1
      try clear hfz9_0
      try clear hfz9_1
      try clear hx603_0
      try clear hx605_0
      try clear p2
      try clear p603
      try clear p605
      try clear q603
      try clear q605
      obtain ⟨x6_2, x7_2, rfl, rfl, HA, HK2, HO_603001, BK599, BK600, BK602, HB⟩ := hrel
      cases gk with
      | zero => exact absurd HA.out (by simp [spec_Clarify.l1])
      | succ k2 =>
       have H := HA.out
       clear HA
       simp only [spec_Clarify.l1] at H
       by_cases c36 : x7_2 < a0_0
       ·
        rw [if_pos c36] at H
        have c36b0 : decide (x7_2 < a0_0) = true := decide_eq_true c36
        clear c36
        have H' := Aside0.mk H
        clear H
        have hnb37 := NB602_599.out
        have hnc37 := NB599_602.out
        have hnb38 := NB602_600.out
        have hnc38 := NB600_602.out
        have hcz39_0 : wr.cell? ⟨gb602, 0, none⟩ = some (.int .i64 a0_0) := (blk_cell BK602.out 0).trans rfl
        have hcz39_1 : wr.cell? ⟨gb602, 1, none⟩ = some (u603001) := (blk_cell BK602.out 1).trans rfl
        have hfz39_0 := blk_frozen BK602.out 0
        have hfz39_1 := blk_frozen BK602.out 1
        go_wp2
        go_loopg [6, 8] k2 (fun kq v6 v8 w' => ∃ (x6_3 : Int) (x8_3 : Int), v6 = .int .i64 x6_3 ∧ v8 = .int .i64 x8_3 ∧ Aside0 (spec_Clarify.l2 kq x6_3 x7_2 x8_3 a0_0 x603001_1 = some (r1, r2, r3)) ∧ Aside0 (kq ≤ k2) ∧ Aside0 (Kd.R (Kd.int .i64) 3 w' w.heap.size (fun _ => True) u603001 x603001_1) ∧ Aside0 (w'.heap[gb599]? = some (.cells #[.int .i64 a0_0, (.slice A0_1 l0_1.length c0_1)] 27 (0, 0))) ∧ Aside0 (w'.heap[gb600]? = some (.cells #[.int .i64 0, (.slice none 0 0)] 27 (0, 0))) ∧ Aside0 (w'.heap[gb602]? = some (.cells #[.int .i64 a0_0, u603001] 27 (0, 0))) ∧ Aside0 (Below w.heap.size w w'))
        case atStart => exact ⟨(x6_2), (0), q9_12, q9_12, H', ⟨Nat.le_refl _⟩, ⟨by (with_reducible repeat (first | apply Kd.R_alloc | apply Kd.R_drewN | apply Kd.R_drew)); exact HO_603001.out⟩, ⟨by (with_reducible repeat (first | refine blk_drewN ?_ _ | refine blk_drew ?_ | refine blk_alloc ?_ _)); exact BK599.out⟩, ⟨by (with_reducible repeat (first | refine blk_drewN ?_ _ | refine blk_drew ?_ | refine blk_alloc ?_ _)); exact BK600.out⟩, ⟨by (with_reducible repeat (first | refine blk_drewN ?_ _ | refine blk_drew ?_ | refine blk_alloc ?_ _)); exact BK602.out⟩, ⟨by repeat (first | (with_reducible first | exact HB.out | apply below_alloc | apply pw_below_drewN | apply below_drew1 | refine below_set ?_ GE599.out | refine below_set ?_ GE600.out | refine below_set ?_ GE602.out) | exact HB.out)⟩⟩
        case round =>
         clear H'
         try clear c1
         try clear c2
         try clear p2
         try clear c3
         try clear c4
         try clear c6
         try clear p6
         try clear q6
         try clear hx6
         try clear c7
         try clear c11
         try clear c12
         try clear c14
         try clear c14b0
         try clear c15
         try clear c15b0
         try clear c17
         try clear c18
         try clear c19
         try clear c23
         try clear c24
         try clear c25
         try clear c33
         try clear c34
         try clear c36
         try clear c36b0
         try clear c37
         try clear c38
         try clear hcz13_0
         try clear hcz13_1
         try clear hcz20_0
         try clear hcz20_1
         try clear hcz26_0
         try clear hcz26_1
         try clear hcz35_0
         try clear hcz35_1
         try clear hcz39_0
         try clear hcz39_1
         try clear hcz7_0
         try clear hcz7_1
         try clear hcz9_0
         try clear hcz9_1
         try clear hfz13_0
         try clear hfz13_1
         try clear hfz20_0
         try clear hfz20_1
         try clear hfz26_0
         try clear hfz26_1
         try clear hfz35_0
         try clear hfz35_1
         try clear hfz39_0
         try clear hfz39_1
         try clear hfz7_0
         try clear hfz7_1
         try clear hfz9_0
         try clear hfz9_1
         try clear hx603_0
         try clear hx605_0
         try clear p2
         try clear p6
         try clear p603
         try clear p605
         try clear q6
         try clear q603
         try clear q605
         obtain ⟨x6_3, x8_3, rfl, rfl, HA, HK3, HO_603001, BK599, BK600, BK602, HB⟩ := hrel
         cases gk with
         | zero => exact absurd HA.out (by simp [spec_Clarify.l2])
         | succ k3 =>
          have H := HA.out
          clear HA
          simp only [spec_Clarify.l2] at H
          by_cases c40 : x8_3 < x7_2
          ·
           rw [if_pos c40] at H
           have c40b0 : decide (x8_3 < x7_2) = true := decide_eq_true c40
           clear c40
           replace H := Option.bind_eq_some_iff.mp H
           obtain ⟨t615, A410, H⟩ := H
           replace H : ((spec_l3Column.f k3 a0_0 x603001_1 x7_2).bind fun t616 => (if t615 = t616 then (if 0 ≤ (IntKind.u64.wrap (x7_2)) then (spec_Clarify.l2 k3 (Go.bits .or .i64 x6_3 (shl .i64 1 (IntKind.u64.wrap (x7_2)))) x7_2 (wrap64 (x8_3 + 1)) a0_0 x603001_1) else (none)) else (spec_Clarify.l2 k3 x6_3 x7_2 (wrap64 (x8_3 + 1)) a0_0 x603001_1))) = some (r1, r2, r3) := H
           have A41 := Aside0.mk A410
           clear A410
           replace H := Option.bind_eq_some_iff.mp H
           obtain ⟨t616, A420, H⟩ := H
           replace H : (if t615 = t616 then (if 0 ≤ (IntKind.u64.wrap (x7_2)) then (spec_Clarify.l2 k3 (Go.bits .or .i64 x6_3 (shl .i64 1 (IntKind.u64.wrap (x7_2)))) x7_2 (wrap64 (x8_3 + 1)) a0_0 x603001_1) else (none)) else (spec_Clarify.l2 k3 x6_3 x7_2 (wrap64 (x8_3 + 1)) a0_0 x603001_1)) = some (r1, r2, r3) := H
           have A42 := Aside0.mk A420
           clear A420
           by_cases c43 : t615 = t616
           ·
            rw [if_pos c43] at H
            have c43b0 : (t615 == t616) = true := beq_iff_eq.mpr c43
            have c43b1 : (t615 != t616) = false := bne_eq_false_iff_eq.mpr c43
            clear c43
            obtain ⟨ji44, hji44⟩ : ∃ j_ : Int, (IntKind.u64.wrap (x7_2)) = j_ := ⟨_, rfl⟩
            replace H : (if 0 ≤ (ji44) then (spec_Clarify.l2 k3 (Go.bits .or .i64 x6_3 (shl .i64 1 (ji44))) x7_2 (wrap64 (x8_3 + 1)) a0_0 x603001_1) else (none)) = some (r1, r2, r3) := by first | (rw [hji44] at H; exact H) | (simp only [hji44] at H ⊢; exact H)
            (try rw [hji44] at A41)
            (try rw [hji44] at A42)
            by_cases c45 : 0 ≤ (ji44)
            ·
             rw [if_pos c45] at H
             have c45b0 := eq_true c45
             have c45b1 : decide (0 ≤ (ji44)) = true := decide_eq_true c45
             clear c45
             obtain ⟨ji46, hji46⟩ : ∃ j_ : Int, (shl .i64 1 (ji44)) = j_ := ⟨_, rfl⟩
             replace H : (spec_Clarify.l2 k3 (Go.bits .or .i64 x6_3 (ji46)) x7_2 (wrap64 (x8_3 + 1)) a0_0 x603001_1) = some (r1, r2, r3) := by first | (rw [hji46] at H; exact H) | (simp only [hji46] at H ⊢; exact H)
             (try rw [hji46] at A41)
             (try rw [hji46] at A42)
             have hji46_ : (IntKind.i64.wrap (1 * 2 ^ min (ji44).toNat 64)) = ji46 := hji46
             have hji46z : (ji44) ≤ 64 → (IntKind.i64.wrap (1 * 2 ^ (ji44).toNat)) = ji46 := shl_small hji46
             have hji46u : (IntKind.i64.wrap (2 ^ min (ji44).toNat 64)) = ji46 := by have h_ := hji46_; rw [Int.one_mul] at h_; exact h_
             have hji46v : (ji44) ≤ 64 → (IntKind.i64.wrap (2 ^ (ji44).toNat)) = ji46 := fun hle_ => by have h_ := hji46z hle_; rw [Int.one_mul] at h_; exact h_
             have hji46y : (wrap64 (1 * 2 ^ min (ji44).toNat 64)) = ji46 := (i64_w _).symm.trans hji46_
             have hji46x : (ji44) ≤ 64 → (wrap64 (1 * 2 ^ (ji44).toNat)) = ji46 := fun h_ => (i64_w _).symm.trans (hji46z h_)
             have H' := Aside0.mk H
             clear H
             try go_wp2
             have n0_ := Aside0.mk (Kd.R_drew HO_603001.out)
             have n1_ := Aside0.mk (blk_drew BK599.out)
             have n2_ := Aside0.mk (blk_drew BK600.out)
             have n3_ := Aside0.mk (blk_drew BK602.out)
             have n4_ := Aside0.mk (below_drew1 HB.out)
             clear HO_603001
             clear BK599
             clear BK600
             clear BK602
             clear HB
             have HO_603001 := n0_
             have BK599 := n1_
             have BK600 := n2_
             have BK602 := n3_
             have HB := n4_
             clear n0_ n1_ n2_ n3_ n4_
             obtain ⟨Ao48, co48, eo48⟩ := Kd.R_slice HO_603001.out
             (first | subst eo48 | (injection eo48 with f1_ f2_ f3_; have f4_ := f1_.symm; have f5_ := f3_.symm; clear f1_ f2_ f3_; subst f4_; subst f5_))
             refine start_ (n := 7) (S := fun w' => w'.cell? ⟨gb602, 0, none⟩ = some (.int .i64 a0_0) ∧ w'.cell? ⟨gb602, 1, none⟩ = some (.slice Ao48 x603001_1.length co48)) (ds := []) #[false, false, false, false, false, false, false] q9_14 rfl rfl ⟨(blk_cell BK602.out 0).trans rfl, (blk_cell BK602.out 1).trans rfl⟩ (fun hHeld => ?_)
             generalize wr.drew = w47 at HO_603001 BK599 BK600 BK602 HB hHeld ⊢
             refine pure_ (i := 1) (N := some 56) (v := ?_) (a' := ?_) #[false, true, false, false, false, false, false] rfl rfl q9_14 (fun _ _ _ h => h) (Or.inl ⟨by rfl, ?_⟩) ?_ ?_
             rotate_left
             ·
              intro w'
              go_simp
              with_reducible rfl
             rotate_left
             ·
              exact put9_
             refine pure_ (i := 4) (N := some 59) (v := ?_) (a' := ?_) #[false, true, false, false, true, false, false] rfl rfl q9_14 (fun _ _ _ h => h) (Or.inl ⟨by rfl, ?_⟩) ?_ ?_
             rotate_left
             ·
              intro w'
              go_simp
              with_reducible rfl
             rotate_left
             ·
              exact put9_
             refine take_ (i := 0) (N := some 55) (v := ?_) (a' := ?_) #[true, true, false, false, true, false, false] rfl rfl q9_14 (fun _ _ _ h => h) (Or.inl ⟨by rfl, ?_⟩) hHeld ?_ ?_
             rotate_left
             ·
              rintro w' ⟨s0, s1⟩
              go_simp
              with_reducible rfl
             rotate_left
             ·
              exact put9_
             refine take_ (i := 3) (N := some 58) (v := ?_) (a' := ?_) #[true, true, false, true, true, false, false] rfl rfl q9_14 (fun _ _ _ h => h) (Or.inl ⟨by rfl, ?_⟩) hHeld ?_ ?_
             rotate_left
             ·
              rintro w' ⟨s0, s1⟩
              go_simp
              with_reducible rfl
             rotate_left
             ·
              exact put9_
             refine one_ (i := 2) (N := some 57) #[true, true, true, true, true, false, false] rfl rfl q9_14 (by decide) (fun K hK => ?_)
             refine goes_ Try.func55 q9_14 rfl #[.agg #[.int .i64 a0_0, .slice Ao48 x603001_1.length co48], .int .i64 x8_3] (by rfl) rfl rfl q9_6 ?_
             with_reducible refine (spec_l3Column.calls k3 a0_0 _ _ x603001_1 x8_3 t615 _ ?side1 ?side2 A41.out).mono ?_
             (case side1 => exact q9_3)
             (case side2 => exact (Kd.R_reads' HO_603001.out).2.1)
             rintro e w49 ⟨rfl, hb⟩
             refine ⟨_, rfl, ?_⟩
             have n0_ := Aside0.mk (Kd.R_below q9_11 hb)
             have n1_ := Aside0.mk (blk_below (g := gb599) (o := .cells #[.int .i64 a0_0, .slice A0_1 l0_1.length c0_1] 27 (0, 0)) q9_8 hb)
             have n2_ := Aside0.mk (blk_below (g := gb600) (o := .cells #[.int .i64 0, .slice none 0 0] 27 (0, 0)) q9_9 hb)
             have n3_ := Aside0.mk (blk_below (g := gb602) (o := .cells #[.int .i64 a0_0, .slice Ao48 x603001_1.length co48] 27 (0, 0)) q9_10 hb)
             have n4_ := Aside0.mk (below_step q9_1 hb)
             clear HO_603001
             clear BK599
             clear BK600
             clear BK602
             clear HB
             have HO_603001 := n0_
             have BK599 := n1_
             have BK600 := n2_
             have BK602 := n3_
             have HB := n4_
             clear n0_ n1_ n2_ n3_ n4_
             (try clear hb)
             (try clear hb2)
             (try clear hk)
             (try clear hi)
             refine hK.out _ _ ⟨(blk_cell BK602.out 0).trans rfl, (blk_cell BK602.out 1).trans rfl⟩ (fun hHeld => ?_)
             clear hK K
             refine norm_ (a' := ?_) ?_ ?_
             rotate_left
             ·
              show Act.put _ (some 57) _ = _
              exact put9_
             refine one_ (i := 5) (N := some 60) #[true, true, true, true, true, true, false] rfl rfl q9_14 (by decide) (fun K hK => ?_)
             refine goes_ Try.func55 q9_14 rfl #[.agg #[.int .i64 a0_0, .slice Ao48 x603001_1.length co48], .int .i64 x7_2] (by rfl) rfl rfl q9_6 ?_
             with_reducible refine (spec_l3Column.calls k3 a0_0 _ _ x603001_1 x7_2 t616 _ ?side1 ?side2 A42.out).mono ?_
             (case side1 => exact q9_3)
             (case side2 => exact (Kd.R_reads' HO_603001.out).2.1)
             rintro e w50 ⟨rfl, hb⟩
             refine ⟨_, rfl, ?_⟩
             have n0_ := Aside0.mk (Kd.R_below q9_11 hb)
             have n1_ := Aside0.mk (blk_below (g := gb599) (o := .cells #[.int .i64 a0_0, .slice A0_1 l0_1.length c0_1] 27 (0, 0)) q9_8 hb)
             have n2_ := Aside0.mk (blk_below (g := gb600) (o := .cells #[.int .i64 0, .slice none 0 0] 27 (0, 0)) q9_9 hb)
             have n3_ := Aside0.mk (blk_below (g := gb602) (o := .cells #[.int .i64 a0_0, .slice Ao48 x603001_1.length co48] 27 (0, 0)) q9_10 hb)
             have n4_ := Aside0.mk (below_step q9_1 hb)
             clear HO_603001
             clear BK599
             clear BK600
             clear BK602
             clear HB
             have HO_603001 := n0_
             have BK599 := n1_
             have BK600 := n2_
             have BK602 := n3_
             have HB := n4_
             clear n0_ n1_ n2_ n3_ n4_
             (try clear hb)
             (try clear hb2)
             (try clear hk)
             (try clear hi)
             refine hK.out _ _ ⟨(blk_cell BK602.out 0).trans rfl, (blk_cell BK602.out 1).trans rfl⟩ (fun hHeld => ?_)
             clear hK K
             refine norm_ (a' := ?_) ?_ ?_
             rotate_left
             ·
              show Act.put _ (some 60) _ = _
              exact put9_
             refine pure_ (i := 6) (N := some 61) (v := ?_) (a' := ?_) #[true, true, true, true, true, true, true] rfl rfl q9_14 (fun _ _ _ h => h) (Or.inl ⟨by rfl, ?_⟩) ?_ ?_
             rotate_left
             ·
              intro w'
              go_simp
              with_reducible rfl
             rotate_left
             ·
              exact put9_
             refine done_ q9_14 ?_
             try go_wp2
             go_roundg k3
             case measure => have := HK1.out; have := HK2.out; have := HK3.out; omega
             case rel => exact ⟨(Go.bits .or .i64 x6_3 (ji46)), (wrap64 (x8_3 + 1)), (by first | rfl | (simp; done) | (simp only [← hji46] <;> (first | rfl | simp)) | (simp [*]; done)), q9_12, H', ⟨by have := HK1.out; have := HK2.out; have := HK3.out; omega⟩, ⟨by (with_reducible repeat (first | apply Kd.R_alloc | apply Kd.R_drewN | apply Kd.R_drew)); exact HO_603001.out⟩, ⟨by (with_reducible repeat (first | refine blk_drewN ?_ _ | refine blk_drew ?_ | refine blk_alloc ?_ _)); exact BK599.out⟩, ⟨by (with_reducible repeat (first | refine blk_drewN ?_ _ | refine blk_drew ?_ | refine blk_alloc ?_ _)); exact BK600.out⟩, ⟨by (with_reducible repeat (first | refine blk_drewN ?_ _ | refine blk_drew ?_ | refine blk_alloc ?_ _)); exact BK602.out⟩, ⟨by repeat (first | (with_reducible first | exact HB.out | apply below_alloc | apply pw_below_drewN | apply below_drew1 | refine below_set ?_ GE599.out | refine below_set ?_ GE600.out | refine below_set ?_ GE602.out) | exact HB.out)⟩⟩
            ·
             rw [if_neg c45] at H
             exact absurd H (by simp)
           ·
            rw [if_neg c43] at H
            have c43b0 : (t615 == t616) = false := beq_eq_false_iff_ne.mpr c43
            have c43b1 : (t615 != t616) = true := bne_iff_ne.mpr c43
            have H' := Aside0.mk H
            clear H
            try go_wp2
            have n0_ := Aside0.mk (Kd.R_drew HO_603001.out)
            have n1_ := Aside0.mk (blk_drew BK599.out)
            have n2_ := Aside0.mk (blk_drew BK600.out)
            have n3_ := Aside0.mk (blk_drew BK602.out)
            have n4_ := Aside0.mk (below_drew1 HB.out)
            clear HO_603001
            clear BK599
            clear BK600
            clear BK602
            clear HB
            have HO_603001 := n0_
            have BK599 := n1_
            have BK600 := n2_
            have BK602 := n3_
            have HB := n4_
            clear n0_ n1_ n2_ n3_ n4_
            obtain ⟨Ao52, co52, eo52⟩ := Kd.R_slice HO_603001.out
            (first | subst eo52 | (injection eo52 with f1_ f2_ f3_; have f4_ := f1_.symm; have f5_ := f3_.symm; clear f1_ f2_ f3_; subst f4_; subst f5_))
            refine start_ (n := 7) (S := fun w' => w'.cell? ⟨gb602, 0, none⟩ = some (.int .i64 a0_0) ∧ w'.cell? ⟨gb602, 1, none⟩ = some (.slice Ao52 x603001_1.length co52)) (ds := []) #[false, false, false, false, false, false, false] q9_14 rfl rfl ⟨(blk_cell BK602.out 0).trans rfl, (blk_cell BK602.out 1).trans rfl⟩ (fun hHeld => ?_)
            generalize wr.drew = w51 at HO_603001 BK599 BK600 BK602 HB hHeld ⊢
            refine pure_ (i := 1) (N := some 56) (v := ?_) (a' := ?_) #[false, true, false, false, false, false, false] rfl rfl q9_14 (fun _ _ _ h => h) (Or.inl ⟨by rfl, ?_⟩) ?_ ?_
            rotate_left
            ·
             intro w'
             go_simp
             with_reducible rfl
            rotate_left
            ·
             exact put9_
            refine pure_ (i := 4) (N := some 59) (v := ?_) (a' := ?_) #[false, true, false, false, true, false, false] rfl rfl q9_14 (fun _ _ _ h => h) (Or.inl ⟨by rfl, ?_⟩) ?_ ?_
            rotate_left
            ·
             intro w'
             go_simp
             with_reducible rfl
            rotate_left
            ·
             exact put9_
            refine take_ (i := 0) (N := some 55) (v := ?_) (a' := ?_) #[true, true, false, false, true, false, false] rfl rfl q9_14 (fun _ _ _ h => h) (Or.inl ⟨by rfl, ?_⟩) hHeld ?_ ?_
            rotate_left
            ·
             rintro w' ⟨s0, s1⟩
             go_simp
             with_reducible rfl
            rotate_left
            ·
             exact put9_
            refine take_ (i := 3) (N := some 58) (v := ?_) (a' := ?_) #[true, true, false, true, true, false, false] rfl rfl q9_14 (fun _ _ _ h => h) (Or.inl ⟨by rfl, ?_⟩) hHeld ?_ ?_
            rotate_left
            ·
             rintro w' ⟨s0, s1⟩
             go_simp
             with_reducible rfl
            rotate_left
            ·
             exact put9_
            refine one_ (i := 2) (N := some 57) #[true, true, true, true, true, false, false] rfl rfl q9_14 (by decide) (fun K hK => ?_)
            refine goes_ Try.func55 q9_14 rfl #[.agg #[.int .i64 a0_0, .slice Ao52 x603001_1.length co52], .int .i64 x8_3] (by rfl) rfl rfl q9_6 ?_
            with_reducible refine (spec_l3Column.calls k3 a0_0 _ _ x603001_1 x8_3 t615 _ ?side1 ?side2 A41.out).mono ?_
            (case side1 => exact q9_3)
            (case side2 => exact (Kd.R_reads' HO_603001.out).2.1)
            rintro e w53 ⟨rfl, hb⟩
            refine ⟨_, rfl, ?_⟩
            have n0_ := Aside0.mk (Kd.R_below q9_11 hb)
            have n1_ := Aside0.mk (blk_below (g := gb599) (o := .cells #[.int .i64 a0_0, .slice A0_1 l0_1.length c0_1] 27 (0, 0)) q9_8 hb)
            have n2_ := Aside0.mk (blk_below (g := gb600) (o := .cells #[.int .i64 0, .slice none 0 0] 27 (0, 0)) q9_9 hb)
            have n3_ := Aside0.mk (blk_below (g := gb602) (o := .cells #[.int .i64 a0_0, .slice Ao52 x603001_1.length co52] 27 (0, 0)) q9_10 hb)
            have n4_ := Aside0.mk (below_step q9_1 hb)
            clear HO_603001
            clear BK599
            clear BK600
            clear BK602
            clear HB
            have HO_603001 := n0_
            have BK599 := n1_
            have BK600 := n2_
            have BK602 := n3_
            have HB := n4_
            clear n0_ n1_ n2_ n3_ n4_
            (try clear hb)
            (try clear hb2)
            (try clear hk)
            (try clear hi)
            refine hK.out _ _ ⟨(blk_cell BK602.out 0).trans rfl, (blk_cell BK602.out 1).trans rfl⟩ (fun hHeld => ?_)
            clear hK K
            refine norm_ (a' := ?_) ?_ ?_
            rotate_left
            ·
             show Act.put _ (some 57) _ = _
             exact put9_
            refine one_ (i := 5) (N := some 60) #[true, true, true, true, true, true, false] rfl rfl q9_14 (by decide) (fun K hK => ?_)
            refine goes_ Try.func55 q9_14 rfl #[.agg #[.int .i64 a0_0, .slice Ao52 x603001_1.length co52], .int .i64 x7_2] (by rfl) rfl rfl q9_6 ?_
            with_reducible refine (spec_l3Column.calls k3 a0_0 _ _ x603001_1 x7_2 t616 _ ?side1 ?side2 A42.out).mono ?_
            (case side1 => exact q9_3)
            (case side2 => exact (Kd.R_reads' HO_603001.out).2.1)
            rintro e w54 ⟨rfl, hb⟩
            refine ⟨_, rfl, ?_⟩
            have n0_ := Aside0.mk (Kd.R_below q9_11 hb)
            have n1_ := Aside0.mk (blk_below (g := gb599) (o := .cells #[.int .i64 a0_0, .slice A0_1 l0_1.length c0_1] 27 (0, 0)) q9_8 hb)
            have n2_ := Aside0.mk (blk_below (g := gb600) (o := .cells #[.int .i64 0, .slice none 0 0] 27 (0, 0)) q9_9 hb)
            have n3_ := Aside0.mk (blk_below (g := gb602) (o := .cells #[.int .i64 a0_0, .slice Ao52 x603001_1.length co52] 27 (0, 0)) q9_10 hb)
            have n4_ := Aside0.mk (below_step q9_1 hb)
            clear HO_603001
            clear BK599
            clear BK600
            clear BK602
            clear HB
            have HO_603001 := n0_
            have BK599 := n1_
            have BK600 := n2_
            have BK602 := n3_
            have HB := n4_
            clear n0_ n1_ n2_ n3_ n4_
            (try clear hb)
            (try clear hb2)
            (try clear hk)
            (try clear hi)
            refine hK.out _ _ ⟨(blk_cell BK602.out 0).trans rfl, (blk_cell BK602.out 1).trans rfl⟩ (fun hHeld => ?_)
            clear hK K
            refine norm_ (a' := ?_) ?_ ?_
            rotate_left
            ·
             show Act.put _ (some 60) _ = _
             exact put9_
            refine pure_ (i := 6) (N := some 61) (v := ?_) (a' := ?_) #[true, true, true, true, true, true, true] rfl rfl q9_14 (fun _ _ _ h => h) (Or.inl ⟨by rfl, ?_⟩) ?_ ?_
            rotate_left
            ·
             intro w'
             go_simp
             with_reducible rfl
            rotate_left
            ·
             exact put9_
            refine done_ q9_14 ?_
            try go_wp2
            go_roundg k3
            case measure => have := HK1.out; have := HK2.out; have := HK3.out; omega
            case rel => exact ⟨(x6_3), (wrap64 (x8_3 + 1)), q9_12, q9_12, H', ⟨by have := HK1.out; have := HK2.out; have := HK3.out; omega⟩, ⟨by (with_reducible repeat (first | apply Kd.R_alloc | apply Kd.R_drewN | apply Kd.R_drew)); exact HO_603001.out⟩, ⟨by (with_reducible repeat (first | refine blk_drewN ?_ _ | refine blk_drew ?_ | refine blk_alloc ?_ _)); exact BK599.out⟩, ⟨by (with_reducible repeat (first | refine blk_drewN ?_ _ | refine blk_drew ?_ | refine blk_alloc ?_ _)); exact BK600.out⟩, ⟨by (with_reducible repeat (first | refine blk_drewN ?_ _ | refine blk_drew ?_ | refine blk_alloc ?_ _)); exact BK602.out⟩, ⟨by repeat (first | (with_reducible first | exact HB.out | apply below_alloc | apply pw_below_drewN | apply below_drew1 | refine below_set ?_ GE599.out | refine below_set ?_ GE600.out | refine below_set ?_ GE602.out) | exact HB.out)⟩⟩
          ·
           rw [if_neg c40] at H
           have c40b0 : decide (x8_3 < x7_2) = false := decide_eq_false c40
           clear c40
           have H' := Aside0.mk H
           clear H
           go_wp2
           go_roundg k3
           case measure => have := HK1.out; have := HK2.out; have := HK3.out; omega
           case rel => exact ⟨(x6_3), (wrap64 (x7_2 + 1)), q9_12, q9_12, H', ⟨by have := HK1.out; have := HK2.out; have := HK3.out; omega⟩, ⟨by (with_reducible repeat (first | apply Kd.R_alloc | apply Kd.R_drewN | apply Kd.R_drew)); exact HO_603001.out⟩, ⟨by (with_reducible repeat (first | refine blk_drewN ?_ _ | refine blk_drew ?_ | refine blk_alloc ?_ _)); exact BK599.out⟩, ⟨by (with_reducible repeat (first | refine blk_drewN ?_ _ | refine blk_drew ?_ | refine blk_alloc ?_ _)); exact BK600.out⟩, ⟨by (with_reducible repeat (first | refine blk_drewN ?_ _ | refine blk_drew ?_ | refine blk_alloc ?_ _)); exact BK602.out⟩, ⟨by repeat (first | (with_reducible first | exact HB.out | apply below_alloc | apply pw_below_drewN | apply below_drew1 | refine below_set ?_ GE599.out | refine below_set ?_ GE600.out | refine below_set ?_ GE602.out) | exact HB.out)⟩⟩
       ·
        rw [if_neg c36] at H
        have c36b0 : decide (x7_2 < a0_0) = false := decide_eq_false c36
        clear c36
        replace H := Option.bind_eq_some_iff.mp H
        obtain ⟨⟨t609, t610, t613⟩, A550, H⟩ := H
        replace H : (some (t609, t610, t613)) = some (r1, r2, r3) := H
        have A55 := Aside0.mk A550
        clear A550
        simp only [Option.some.injEq, Prod.mk.injEq] at H
        obtain ⟨rfl, rfl, rfl⟩ := H
        have hnb56 := NB602_599.out
        have hnc56 := NB599_602.out
        have hnb57 := NB602_600.out
        have hnc57 := NB600_602.out
        have hcz58_0 : wr.cell? ⟨gb602, 0, none⟩ = some (.int .i64 a0_0) := (blk_cell BK602.out 0).trans rfl
        have hcz58_1 : wr.cell? ⟨gb602, 1, none⟩ = some (u603001) := (blk_cell BK602.out 1).trans rfl
        have hfz58_0 := blk_frozen BK602.out 0
        have hfz58_1 := blk_frozen BK602.out 1
        obtain ⟨Ao59, co59, eo59⟩ := Kd.R_slice HO_603001.out
        subst eo59
        go_wp2_with (first | ((with_reducible refine gate_callee (f := 39) rfl ?_); refine goesL_ (some 70) rfl rfl Try.func39 q9_14 rfl #[.agg #[.int .i64 a0_0, .slice Ao59 x603001_1.length co59], .int .i64 x6_2] rfl q9_6 ?_; (with_reducible refine (spec_DropAttributes.calls k2 a0_0 _ _ x603001_1 x6_2 t609 t610 t613 _ ?side1 ?side2 A55.out).mono ?_); (case side1 => exact q9_3); (case side2 => exact (Kd.R_reads' HO_603001.out).2.1); rintro e w60 ⟨v611, rfl, ho0, hb⟩; refine ⟨_, rfl, ?_⟩; have n0_ := Aside0.mk (Kd.R_elder' q9_11 (Kd.R_base ho0) hb); have n1_ := Aside0.mk (Kd.R_lower (Kd.R_new' ho0 (Kd.R_lt q9_11)) (below_size q9_1)); have n2_ := Aside0.mk (blk_below (g := gb599) (o := .cells #[.int .i64 a0_0, .slice A0_1 l0_1.length c0_1] 27 (0, 0)) q9_8 hb); have n3_ := Aside0.mk (blk_below (g := gb600) (o := .cells #[.int .i64 0, .slice none 0 0] 27 (0, 0)) q9_9 hb); have n4_ := Aside0.mk (blk_below (g := gb602) (o := .cells #[.int .i64 a0_0, .slice Ao59 x603001_1.length co59] 27 (0, 0)) q9_10 hb); have n5_ := Aside0.mk (below_step q9_1 hb); clear HO_603001; clear BK599; clear BK600; clear BK602; clear HB; have HO_603001 := n0_; have HO612 := n1_; have BK599 := n2_; have BK600 := n3_; have BK602 := n4_; have HB := n5_; clear n0_ n1_ n2_ n3_ n4_ n5_; (try clear hb); (try clear hb2); (try clear hk); (try clear hi); (try clear ho0)) | ((with_reducible refine gate_dst (N := 9) rfl ?_); refine box_event ?hg (N := 9) ?hd (cs := #[.int .i64 0, .slice none 0 0]) (t := 27) ?hr ?_; (case hd => rfl); (case hg => rfl); (case hr => first | (go_simp; done) | (go_simp; rfl)); intro gb614 hg w61 hbox hb; have n0_ := Aside0.mk (Kd.R_below q9_11 hb); have n1_ := Aside0.mk (Kd.R_below (by (with_reducible repeat (first | apply Kd.R_alloc | apply Kd.R_drewN | apply Kd.R_drew)); exact HO612.out) hb); have n2_ := Aside0.mk (blk_below (g := gb599) (o := .cells #[.int .i64 a0_0, .slice A0_1 l0_1.length c0_1] 27 (0, 0)) q9_8 hb); have n3_ := Aside0.mk (blk_below (g := gb600) (o := .cells #[.int .i64 0, .slice none 0 0] 27 (0, 0)) q9_9 hb); have n4_ := Aside0.mk (blk_below (g := gb602) (o := .cells #[.int .i64 a0_0, .slice Ao59 x603001_1.length co59] 27 (0, 0)) q9_10 hb); have n5_ := Aside0.mk (below_step q9_1 hb); have n6_ := Aside0.mk (hbox); have n7_ := Aside0.mk ((by rw [hg]; exact (below_size q9_1) : w.heap.size ≤ gb614)); have n8_ := Aside0.mk ((by rw [hg]; exact (below_size q9_1) : w.heap.size ≤ gb614)); have n9_ := Aside0.mk ((by rw [hg]; exact Nat.ne_of_lt (blk_lt (g := gb599) (o := .cells #[.int .i64 a0_0, .slice A0_1 l0_1.length c0_1] 27 (0, 0)) q9_8) : gb599 ≠ gb614)); have n10_ := Aside0.mk ((by rw [hg]; exact Nat.ne_of_gt (blk_lt (g := gb599) (o := .cells #[.int .i64 a0_0, .slice A0_1 l0_1.length c0_1] 27 (0, 0)) q9_8) : gb614 ≠ gb599)); have n11_ := Aside0.mk ((by rw [hg]; exact Nat.ne_of_lt (blk_lt (g := gb600) (o := .cells #[.int .i64 0, .slice none 0 0] 27 (0, 0)) q9_9) : gb600 ≠ gb614)); have n12_ := Aside0.mk ((by rw [hg]; exact Nat.ne_of_gt (blk_lt (g := gb600) (o := .cells #[.int .i64 0, .slice none 0 0] 27 (0, 0)) q9_9) : gb614 ≠ gb600)); have n13_ := Aside0.mk ((by rw [hg]; exact Nat.ne_of_lt (blk_lt (g := gb602) (o := .cells #[.int .i64 a0_0, .slice Ao59 x603001_1.length co59] 27 (0, 0)) q9_10) : gb602 ≠ gb614)); have n14_ := Aside0.mk ((by rw [hg]; exact Nat.ne_of_gt (blk_lt (g := gb602) (o := .cells #[.int .i64 a0_0, .slice Ao59 x603001_1.length co59] 27 (0, 0)) q9_10) : gb614 ≠ gb602)); clear HO_603001; clear HO612; clear BK599; clear BK600; clear BK602; clear HB; have HO_603001 := n0_; have HO612 := n1_; have BK599 := n2_; have BK600 := n3_; have BK602 := n4_; have HB := n5_; have BK614 := n6_; have GW614 := n7_; have GE614 := n8_; have NB599_614 := n9_; have NB614_599 := n10_; have NB600_614 := n11_; have NB614_600 := n12_; have NB602_614 := n13_; have NB614_602 := n14_; clear n0_ n1_ n2_ n3_ n4_ n5_ n6_ n7_ n8_ n9_ n10_ n11_ n12_ n13_ n14_; clear hb hbox hg; have hnb62 := NB614_599.out; have hnc62 := NB599_614.out; have hnb63 := NB614_600.out; have hnc63 := NB600_614.out; have hnb64 := NB614_602.out; have hnc64 := NB602_614.out; have hcz65_0 : w61.cell? ⟨gb614, 0, none⟩ = some (.int .i64 0) := (blk_cell BK614.out 0).trans rfl; have hcz65_1 : w61.cell? ⟨gb614, 1, none⟩ = some (.slice none 0 0) := (blk_cell BK614.out 1).trans rfl; have hfz65_0 := blk_frozen BK614.out 0; have hfz65_1 := blk_frozen BK614.out 1; obtain ⟨Ao66, co66, eo66⟩ := Kd.R_slice HO612.out; subst eo66; have hnb67 := NB600_599.out; have hnc67 := NB599_600.out; have hcz68_0 : w61.cell? ⟨gb600, 0, none⟩ = some (.int .i64 0) := (blk_cell BK600.out 0).trans rfl; have hcz68_1 : w61.cell? ⟨gb600, 1, none⟩ = some (.slice none 0 0) := (blk_cell BK600.out 1).trans rfl; have hfz68_0 := blk_frozen BK600.out 0; have hfz68_1 := blk_frozen BK600.out 1))
        refine bodyPost_ret (results_ct rfl _ _ gb600 27 #[.int .i64 t609, .slice Ao66 t610.length co66] (0, 0) _ rfl (by (with_reducible repeat (first | refine blk_drewN ?_ _ | refine blk_drew ?_ | refine blk_alloc ?_ _)); refine blk_put (cs := #[.int .i64 t609, .slice none 0 0]) ?_ 1 _ rfl; (with_reducible repeat (first | refine blk_drewN ?_ _ | refine blk_drew ?_ | refine blk_alloc ?_ _)); refine blk_put (cs := #[.int .i64 0, .slice none 0 0]) ?_ 0 _ rfl; (with_reducible repeat (first | refine blk_drewN ?_ _ | refine blk_drew ?_ | refine blk_alloc ?_ _)); refine blk_far ?_ NB600_614.out _; (with_reducible repeat (first | refine blk_drewN ?_ _ | refine blk_drew ?_ | refine blk_alloc ?_ _)); refine blk_far ?_ NB600_614.out _; (with_reducible repeat (first | refine blk_drewN ?_ _ | refine blk_drew ?_ | refine blk_alloc ?_ _)); exact BK600.out) Try.underlying27 rfl q9_14) rfl ?_
        exact ⟨_, by first | rfl | (simp [errW_none, errW_some] <;> rfl) | (simp [*, errW_none, errW_some] <;> rfl), by (with_reducible repeat (first | apply Kd.R_alloc | apply Kd.R_drewN | apply Kd.R_drew)); exact Kd.R_mono (Kd.R_far (p := ⟨gb600, 1, none⟩) (Kd.R_far (p := ⟨gb600, 0, none⟩) (Kd.R_far (p := ⟨gb614, 1, none⟩) (Kd.R_far (p := ⟨gb614, 0, none⟩) (Kd.R_types (Kd.R_types HO612.out BK614.out (by decide)) BK600.out (by decide)) (fun _ hk => hk.1.2) (.int .i64 t609)) (fun _ hk => hk.1.2) (.slice Ao66 t610.length co66)) (fun _ hk => hk.2) (.int .i64 t609)) (fun _ hk => hk.2) (.slice Ao66 t610.length co66)) (fun _ hk => trivial), by repeat (first | (with_reducible first | exact HB.out | apply below_alloc | apply pw_below_drewN | apply below_drew1 | refine below_set ?_ GE599.out | refine below_set ?_ GE600.out | refine below_set ?_ GE602.out | refine below_set ?_ GE614.out) | exact HB.out)⟩
 ·
  replace c3 := Bool.eq_false_iff.mpr c3
  subst c3
  have H1 : (some (0, ([] : List Int), false)) = some (r1, r2, r3) := by rw [if_neg (show ¬ (false = true) by decide)] at H; exact H
  clear H
  have H := H1
  clear H1
  simp only [Option.some.injEq, Prod.mk.injEq] at H
  obtain ⟨rfl, rfl, rfl⟩ := H
  go_enter Try.func41, Try.ntmps41
  go_wp2_with (first | ((with_reducible refine gate_dst (N := 1) rfl ?_); refine box_event ?hg (N := 1) ?hd (cs := #[.int .i64 a0_0, .slice A0_1 l0_1.length c0_1]) (t := 27) ?hr ?_; (case hd => rfl); (case hg => rfl); (case hr => first | (go_simp; done) | (go_simp; rfl)); intro gb599 hg w69 hbox hb; have n0_ := Aside0.mk (below_step q9_7 hb); have n1_ := Aside0.mk (hbox); have n2_ := Aside0.mk ((by rw [hg]; exact (below_size q9_7) : w.heap.size ≤ gb599)); have n3_ := Aside0.mk ((by rw [hg]; exact (below_size q9_7) : w.heap.size ≤ gb599)); clear HB; have HB := n0_; have BK599 := n1_; have GW599 := n2_; have GE599 := n3_; clear n0_ n1_ n2_ n3_; clear hb hbox hg) | ((with_reducible refine gate_dst (N := 2) rfl ?_); refine box_event ?hg (N := 2) ?hd (cs := #[.int .i64 0, .slice none 0 0]) (t := 27) ?hr ?_; (case hd => rfl); (case hg => rfl); (case hr => first | (go_simp; done) | (go_simp; rfl)); intro gb600 hg w70 hbox hb; have n0_ := Aside0.mk (blk_below (g := gb599) (o := .cells #[.int .i64 a0_0, .slice A0_1 l0_1.length c0_1] 27 (0, 0)) q9_8 hb); have n1_ := Aside0.mk (below_step q9_5 hb); have n2_ := Aside0.mk (hbox); have n3_ := Aside0.mk ((by rw [hg]; exact (below_size q9_5) : w.heap.size ≤ gb600)); have n4_ := Aside0.mk ((by rw [hg]; exact (below_size q9_5) : w.heap.size ≤ gb600)); have n5_ := Aside0.mk ((by rw [hg]; exact Nat.ne_of_lt (blk_lt (g := gb599) (o := .cells #[.int .i64 a0_0, .slice A0_1 l0_1.length c0_1] 27 (0, 0)) q9_8) : gb599 ≠ gb600)); have n6_ := Aside0.mk ((by rw [hg]; exact Nat.ne_of_gt (blk_lt (g := gb599) (o := .cells #[.int .i64 a0_0, .slice A0_1 l0_1.length c0_1] 27 (0, 0)) q9_8) : gb600 ≠ gb599)); clear BK599; clear HB; have BK599 := n0_; have HB := n1_; have BK600 := n2_; have GW600 := n3_; have GE600 := n4_; have NB599_600 := n5_; have NB600_599 := n6_; clear n0_ n1_ n2_ n3_ n4_ n5_ n6_; clear hb hbox hg; have hnb71 := NB599_600.out; have hnc71 := NB600_599.out; have hcz72_0 : w70.cell? ⟨gb599, 0, none⟩ = some (.int .i64 a0_0) := (blk_cell BK599.out 0).trans rfl; have hcz72_1 : w70.cell? ⟨gb599, 1, none⟩ = some (.slice A0_1 l0_1.length c0_1) := (blk_cell BK599.out 1).trans rfl; have hfz72_0 := blk_frozen BK599.out 0; have hfz72_1 := blk_frozen BK599.out 1) | ((with_reducible refine gate_callee (f := 46) rfl ?_); refine goesL_ (some 12) rfl rfl Try.func46 q9_14 rfl #[.agg #[.int .i64 a0_0, .slice A0_1 l0_1.length c0_1]] rfl q9_6 ?_; (with_reducible refine (spec_IsContext.calls k a0_0 _ _ l0_1 false _ ?side1 ?side2 A2.out).mono ?_); (case side1 => exact q9_4); (case side2 => exact HC0_1.out); rintro e w73 ⟨rfl, hb⟩; refine ⟨_, rfl, ?_⟩; have n0_ := Aside0.mk (blk_below (g := gb599) (o := .cells #[.int .i64 a0_0, .slice A0_1 l0_1.length c0_1] 27 (0, 0)) q9_8 hb); have n1_ := Aside0.mk (blk_below (g := gb600) (o := .cells #[.int .i64 0, .slice none 0 0] 27 (0, 0)) q9_9 hb); have n2_ := Aside0.mk (below_step q9_2 hb); clear BK599; clear BK600; clear HB; have BK599 := n0_; have BK600 := n1_; have HB := n2_; clear n0_ n1_ n2_; (try clear hb); (try clear hb2); (try clear hk); (try clear hi); have hcz74_0 : w73.cell? ⟨gb600, 0, none⟩ = some (.int .i64 0) := (blk_cell BK600.out 0).trans rfl; have hcz74_1 : w73.cell? ⟨gb600, 1, none⟩ = some (.slice none 0 0) := (blk_cell BK600.out 1).trans rfl; have hfz74_0 := blk_frozen BK600.out 0; have hfz74_1 := blk_frozen BK600.out 1))
  refine bodyPost_ret (results_ct rfl _ _ gb600 27 #[.int .i64 0, .slice none 0 0] (0, 0) _ rfl (by (with_reducible repeat (first | refine blk_drewN ?_ _ | refine blk_drew ?_ | refine blk_alloc ?_ _)); refine blk_put (cs := #[.int .i64 0, .slice none 0 0]) ?_ 1 _ rfl; (with_reducible repeat (first | refine blk_drewN ?_ _ | refine blk_drew ?_ | refine blk_alloc ?_ _)); refine blk_put (cs := #[.int .i64 0, .slice none 0 0]) ?_ 0 _ rfl; (with_reducible repeat (first | refine blk_drewN ?_ _ | refine blk_drew ?_ | refine blk_alloc ?_ _)); exact BK600.out) Try.underlying27 rfl q9_14) rfl ?_
  exact ⟨_, by first | rfl | (simp [errW_none, errW_some] <;> rfl) | (simp [*, errW_none, errW_some] <;> rfl), by first | exact Kd.R_nil _ _ _ _ _ | exact Kd.N_nil _ _ _ _ _ | exact Kd.V_nil _ _ _ _ _ | exact Kd.Q_nil _ _ _ _ _ | exact Kd.S_nil _ _ _ _ _, by repeat (first | (with_reducible first | exact HB.out | apply below_alloc | apply pw_below_drewN | apply below_drew1 | refine below_set ?_ GE599.out | refine below_set ?_ GE600.out) | exact HB.out)⟩
end Go.Proofs.Ytemhlblajnlogaa.Pr
