/- What the law needs of the program's functions as plain functions, of the proofs that their calls answer so, and of plain laws: gathered by a program of this place (pack.py) out of its printed texts. No condition beyond what each statement says. -/
import Derived.Test.YtemhlblajnlogaaZXReduceContext2
import Derived.Test.YtemhlblajnlogaaZXReduceContext3
namespace Go.Proofs.Ytemhlblajnlogaa.Pr
open Go.RowKit Go.Proofs.YtemhlblajnlogaaW.PrintWords Go.Proofs.YtemhlblajnlogaaW.PrintLast Go.Proofs.YtemhlblajnlogaaW.PrintMore
attribute [local go_sem] max2_int min2_int max_two min_two max_three min_three max_four min_four   -- for this text's walks alone
set_option linter.unusedVariables false
set_option linter.unusedSimpArgs false
theorem put13_ {P : Prop} (h : P := by simp only [Act.put, List.setIfInBounds_toArray, List.set_cons_zero, List.set_cons_succ, i64_w, i32_w]; rfl) : P := h
theorem q13_1 {P : Prop} (h : P := by repeat (first | (with_reducible first | exact HB.out | apply below_alloc | apply pw_below_drewN | apply below_drew1 | refine below_set ?_ GE433.out | refine below_set ?_ GE434.out | refine below_set ?_ GE437.out) | exact HB.out)) : P := h
theorem q13_2 {P : Prop} (h : P := by repeat (first | (with_reducible first | exact HB.out | apply below_alloc | apply pw_below_drewN | apply below_drew1 | refine below_set ?_ GE433.out | refine below_set ?_ GE434.out) | exact HB.out)) : P := h
theorem q13_3 {P : Prop} (h : P := by repeat (first | exact (Kd.C_below HR0_1.out HB.out) | (with_reducible refine Kd.C_alloc ?_ _) | (with_reducible refine Kd.C_drewN ?_ _) | (with_reducible refine Kd.C_drew ?_))) : P := h
theorem q13_4 {P : Prop} (h : P := by repeat (first | (with_reducible first | exact HB.out | apply below_alloc | apply pw_below_drewN | apply below_drew1 | refine below_set ?_ GE433.out) | exact HB.out)) : P := h
theorem q13_5 {P : Prop} (h : P := by (try simp only [List.map_toArray, List.map_cons, List.map_nil]); first | done | rfl | (simp only [List.length_drop, List.length_take]; rfl)) : P := h
theorem q13_6 {P : Prop} (h : P := by repeat (first | (with_reducible first | exact HB.out | apply below_alloc | apply pw_below_drewN | apply below_drew1) | exact HB.out)) : P := h
theorem q13_7 {P : Prop} (h : P := by (with_reducible repeat (first | refine blk_drewN ?_ _ | refine blk_drew ?_ | refine blk_alloc ?_ _)); exact BK433.out) : P := h
theorem q13_8 {P : Prop} (h : P := by (with_reducible repeat (first | refine blk_drewN ?_ _ | refine blk_drew ?_ | refine blk_alloc ?_ _)); exact BK434.out) : P := h
theorem q13_9 {P : Prop} (h : P := by (with_reducible repeat (first | refine blk_drewN ?_ _ | refine blk_drew ?_ | refine blk_alloc ?_ _)); exact BK437.out) : P := h
theorem q13_10 {P : Prop} (h : P := by first | rfl | (simp; done) | (simp [*]; done) | (simp [i64_w, i32_w]; done)) : P := h
theorem q13_11 {P : Prop} (h : P := by rw [if_neg (show ¬ (false = true) by decide)] at H; exact H) : P := h
theorem q13_12 {P : Prop} (h : P := by kernel_rfl) : P := h
mutual
def spec_DropObjects.j0 : Nat → Int → Bool → Int → List Int → Option (Int × List Int × Bool)
 | 0, _, _, _, _ => none
 | k + 1, x1, x18, x434000, x434001 => if x18 = true then (some (0, ([] : List Int), false)) else (spec_DropObjects.l0 k x1 0 x434000 x434001 x434000 ([] : List Int))
def spec_DropObjects.l0 : Nat → Int → Int → Int → List Int → Int → List Int → Option (Int × List Int × Bool)
 | 0, _, _, _, _, _, _ => none
 | k + 1, x1, x7, x434000, x434001, x438000, x438001 => if x7 < (x434001.length : Int) then ((spec_l2Has.f x1 x7).bind fun t438 => (if t438 = true then (spec_DropObjects.l0 k x1 (wrap64 (x7 + 1)) x434000 x434001 x438000 x438001) else (if 0 ≤ x7 then (if x438001.length < 17592186044416 then (spec_DropObjects.l0 k x1 (wrap64 (x7 + 1)) x434000 x434001 x438000 (x438001 ++ [rd x434001 x7])) else (none)) else (none)))) else (some (x438000, x438001, true))
end
def spec_DropObjects.f (k : Nat) (a0_0 : Int) (l0_1 : List Int) (a1 : Int) : Option (Int × List Int × Bool) := (spec_IsContext.f k a0_0 l0_1).bind fun t435 => (if t435 = true then ((spec_IsSet.f (l0_1.length : Int) a1).bind fun t436 => (spec_DropObjects.j0 k a1 (!t436) a0_0 l0_1)) else (spec_DropObjects.j0 k a1 true a0_0 l0_1))
def spec_DropObjects.T8 : Bool × List (List Nat × List Nat) := (true, [([], []), ([0], [0]), ([], []), ([2], [2]), ([], []), ([3, 4], [3, 4]), ([5], [5]), ([6], [6]), ([1, 7], [1, 7]), ([0, 1, 2, 3, 4, 5, 6, 7, 8], []), ([9, 8, 8, 0, 1, 2, 3, 4, 5, 6, 7, 8], [8, 9])])
def spec_DropObjects.B8 : List Nat := [0, 1, 0, 4, 0, 28, 60, 124, 255, 511, 1023]
theorem spec_DropObjects.tab8 : rtab .any (opsOf Try.f35 8) = spec_DropObjects.T8 := q13_12
theorem spec_DropObjects.bits8 : waitsOk spec_DropObjects.T8.2 spec_DropObjects.B8 = true := q13_12
set_option maxHeartbeats 8000000 in
set_option maxRecDepth 100000 in
theorem spec_DropObjects.calls (k : Nat) (a0_0 : Int) (A0_1 : Option Addr) (c0_1 : Nat) (l0_1 : List Int) (a1 : Int) (r1 : Int) (r2 : List Int) (r3 : Bool) (w : World) (hr0_1 : Kd.C (Kd.int .i64) w A0_1 l0_1.length l0_1) (hc0_1 : l0_1.length ≤ c0_1) (h : spec_DropObjects.f k a0_0 l0_1 a1 = some (r1, r2, r3)) :
  Calls Try.prog 35 #[.agg #[.int .i64 a0_0, .slice A0_1 l0_1.length c0_1], .int .i64 a1] w fun e w' => ∃ v1_ : Value, e = .returned (.tuple #[.agg #[.int .i64 r1, v1_], .bool r3]) ∧ Kd.R (Kd.int .i64) 3 w' w.heap.size (fun _ => True) v1_ r2 ∧ Below w.heap.size w w' := by
 have hu27 := Try.underlying27
 have HR0_1 := Aside0.mk hr0_1
 have HC0_1 := Aside0.mk hc0_1
 clear hr0_1 hc0_1
 have HB := Aside0.mk (Below.refl w.heap.size w)
 have H : ((spec_IsContext.f k a0_0 l0_1).bind fun t435 => (if t435 = true then ((spec_IsSet.f (l0_1.length : Int) a1).bind fun t436 => (spec_DropObjects.j0 k a1 (!t436) a0_0 l0_1)) else (spec_DropObjects.j0 k a1 true a0_0 l0_1))) = some (r1, r2, r3) := h
 clear h
 have HC3 := Aside0.mk H
 clear H
 go_enter Try.func35, Try.ntmps35
 go_upto_region 1 with (first | ((with_reducible refine gate_dst (N := 2) rfl ?_); (try (refine gate_guard (by rfl) ?_; dsimp only)); refine box_event ?hg (N := 2) ?hd (cs := #[.int .i64 a0_0, .slice A0_1 l0_1.length c0_1]) (t := 27) ?hr ?_; (case hd => rfl); (case hg => rfl); (case hr => first | (go_simp; done) | (go_simp; rfl)); intro gb433 hg w4 hbox hb; have n0_ := Aside0.mk (below_step q13_6 hb); have n1_ := Aside0.mk (hbox); have n2_ := Aside0.mk ((by rw [hg]; exact (below_size q13_6) : w.heap.size ≤ gb433)); have n3_ := Aside0.mk ((by rw [hg]; exact (below_size q13_6) : w.heap.size ≤ gb433)); clear HB; have HB := n0_; have BK433 := n1_; have GW433 := n2_; have GE433 := n3_; clear n0_ n1_ n2_ n3_; clear hb hbox hg) | ((with_reducible refine gate_dst (N := 4) rfl ?_); (try (refine gate_guard (by rfl) ?_; dsimp only)); refine box_event ?hg (N := 4) ?hd (cs := #[.int .i64 0, .slice none 0 0]) (t := 27) ?hr ?_; (case hd => rfl); (case hg => rfl); (case hr => first | (go_simp; done) | (go_simp; rfl)); intro gb434 hg w5 hbox hb; have n0_ := Aside0.mk (blk_below (g := gb433) (o := .cells #[.int .i64 a0_0, .slice A0_1 l0_1.length c0_1] 27 (0, 0)) q13_7 hb); have n1_ := Aside0.mk (below_step q13_4 hb); have n2_ := Aside0.mk (hbox); have n3_ := Aside0.mk ((by rw [hg]; exact (below_size q13_4) : w.heap.size ≤ gb434)); have n4_ := Aside0.mk ((by rw [hg]; exact (below_size q13_4) : w.heap.size ≤ gb434)); have n5_ := Aside0.mk ((by rw [hg]; exact Nat.ne_of_lt (blk_lt (g := gb433) (o := .cells #[.int .i64 a0_0, .slice A0_1 l0_1.length c0_1] 27 (0, 0)) q13_7) : gb433 ≠ gb434)); have n6_ := Aside0.mk ((by rw [hg]; exact Nat.ne_of_gt (blk_lt (g := gb433) (o := .cells #[.int .i64 a0_0, .slice A0_1 l0_1.length c0_1] 27 (0, 0)) q13_7) : gb434 ≠ gb433)); clear BK433; clear HB; have BK433 := n0_; have HB := n1_; have BK434 := n2_; have GW434 := n3_; have GE434 := n4_; have NB433_434 := n5_; have NB434_433 := n6_; clear n0_ n1_ n2_ n3_ n4_ n5_ n6_; clear hb hbox hg))
 (try simp only [Act.put, List.setIfInBounds_toArray, List.set_cons_zero, List.set_cons_succ])
 go_cut [18] (fun v18 wc => ∃ (kq : Nat) (x18_2 : Bool), v18 = .bool x18_2 ∧ Aside0 (spec_DropObjects.j0 kq a1 x18_2 a0_0 l0_1 = some (r1, r2, r3)) ∧ Aside0 (kq ≤ k) ∧ Aside0 (wc.heap[gb433]? = some (.cells #[.int .i64 a0_0, (.slice A0_1 l0_1.length c0_1)] 27 (0, 0))) ∧ Aside0 (wc.heap[gb434]? = some (.cells #[.int .i64 0, (.slice none 0 0)] 27 (0, 0))) ∧ Aside0 (Below w.heap.size w wc))
 case first =>
  have H := HC3.out
  clear HC3
  replace H := Option.bind_eq_some_iff.mp H
  obtain ⟨t435, A60, H⟩ := H
  replace H : (if t435 = true then ((spec_IsSet.f (l0_1.length : Int) a1).bind fun t436 => (spec_DropObjects.j0 k a1 (!t436) a0_0 l0_1)) else (spec_DropObjects.j0 k a1 true a0_0 l0_1)) = some (r1, r2, r3) := H
  have A6 := Aside0.mk A60
  clear A60
  by_cases c7 : t435 = true
  ·
   subst c7
   have H1 : ((spec_IsSet.f (l0_1.length : Int) a1).bind fun t436 => (spec_DropObjects.j0 k a1 (!t436) a0_0 l0_1)) = some (r1, r2, r3) := by rw [if_pos rfl] at H; exact H
   clear H
   have H := H1
   clear H1
   replace H := Option.bind_eq_some_iff.mp H
   obtain ⟨t436, A80, H⟩ := H
   replace H : (spec_DropObjects.j0 k a1 (!t436) a0_0 l0_1) = some (r1, r2, r3) := H
   have A8 := Aside0.mk A80
   clear A80
   have H' := Aside0.mk H
   clear H
   have hnb9 := NB433_434.out
   have hnc9 := NB434_433.out
   have hcz10_0 : w5.cell? ⟨gb433, 0, none⟩ = some (.int .i64 a0_0) := (blk_cell BK433.out 0).trans rfl
   have hcz10_1 : w5.cell? ⟨gb433, 1, none⟩ = some (.slice A0_1 l0_1.length c0_1) := (blk_cell BK433.out 1).trans rfl
   have hfz10_0 := blk_frozen BK433.out 0
   have hfz10_1 := blk_frozen BK433.out 1
   go_wp2_with (first | ((with_reducible refine gate_callee (f := 46) rfl ?_); refine goesL_ (some 9) rfl rfl Try.func46 q13_12 rfl #[.agg #[.int .i64 a0_0, .slice A0_1 l0_1.length c0_1]] rfl q13_5 ?_; (with_reducible refine (spec_IsContext.calls k a0_0 _ _ l0_1 true _ ?side1 ?side2 A6.out).mono ?_); (case side1 => exact q13_3); (case side2 => exact HC0_1.out); rintro e w11 ⟨rfl, hb⟩; refine ⟨_, rfl, ?_⟩; have n0_ := Aside0.mk (blk_below (g := gb433) (o := .cells #[.int .i64 a0_0, .slice A0_1 l0_1.length c0_1] 27 (0, 0)) q13_7 hb); have n1_ := Aside0.mk (blk_below (g := gb434) (o := .cells #[.int .i64 0, .slice none 0 0] 27 (0, 0)) q13_8 hb); have n2_ := Aside0.mk (below_step q13_2 hb); clear BK433; clear BK434; clear HB; have BK433 := n0_; have BK434 := n1_; have HB := n2_; clear n0_ n1_ n2_; (try clear hb); (try clear hb2); (try clear hk); (try clear hi); have hcz12_0 : w11.cell? ⟨gb433, 0, none⟩ = some (.int .i64 a0_0) := (blk_cell BK433.out 0).trans rfl; have hcz12_1 : w11.cell? ⟨gb433, 1, none⟩ = some (.slice A0_1 l0_1.length c0_1) := (blk_cell BK433.out 1).trans rfl; have hfz12_0 := blk_frozen BK433.out 0; have hfz12_1 := blk_frozen BK433.out 1) | (go_at_call 69; (with_reducible refine (spec_IsSet.calls (l0_1.length : Int) a1 t436 _ A8.out).mono ?_); rintro e w' ⟨rfl, ⟨nd, rfl⟩⟩))
   go_meet
   case rel => exact ⟨_, (!t436), q13_10, H', ⟨by first | omega | exact Nat.le_refl _⟩, ⟨by (with_reducible repeat (first | refine blk_drewN ?_ _ | refine blk_drew ?_ | refine blk_alloc ?_ _)); exact BK433.out⟩, ⟨by (with_reducible repeat (first | refine blk_drewN ?_ _ | refine blk_drew ?_ | refine blk_alloc ?_ _)); exact BK434.out⟩, ⟨by repeat (first | (with_reducible first | exact HB.out | apply below_alloc | apply pw_below_drewN | apply below_drew1 | refine below_set ?_ GE433.out | refine below_set ?_ GE434.out) | exact HB.out)⟩⟩
  ·
   replace c7 := Bool.eq_false_iff.mpr c7
   subst c7
   have H1 : (spec_DropObjects.j0 k a1 true a0_0 l0_1) = some (r1, r2, r3) := q13_11
   clear H
   have H := H1
   clear H1
   have H' := Aside0.mk H
   clear H
   have hnb13 := NB433_434.out
   have hnc13 := NB434_433.out
   have hcz14_0 : w5.cell? ⟨gb433, 0, none⟩ = some (.int .i64 a0_0) := (blk_cell BK433.out 0).trans rfl
   have hcz14_1 : w5.cell? ⟨gb433, 1, none⟩ = some (.slice A0_1 l0_1.length c0_1) := (blk_cell BK433.out 1).trans rfl
   have hfz14_0 := blk_frozen BK433.out 0
   have hfz14_1 := blk_frozen BK433.out 1
   go_wp2_with (first | ((with_reducible refine gate_callee (f := 46) rfl ?_); refine goesL_ (some 9) rfl rfl Try.func46 q13_12 rfl #[.agg #[.int .i64 a0_0, .slice A0_1 l0_1.length c0_1]] rfl q13_5 ?_; (with_reducible refine (spec_IsContext.calls k a0_0 _ _ l0_1 false _ ?side1 ?side2 A6.out).mono ?_); (case side1 => exact q13_3); (case side2 => exact HC0_1.out); rintro e w15 ⟨rfl, hb⟩; refine ⟨_, rfl, ?_⟩; have n0_ := Aside0.mk (blk_below (g := gb433) (o := .cells #[.int .i64 a0_0, .slice A0_1 l0_1.length c0_1] 27 (0, 0)) q13_7 hb); have n1_ := Aside0.mk (blk_below (g := gb434) (o := .cells #[.int .i64 0, .slice none 0 0] 27 (0, 0)) q13_8 hb); have n2_ := Aside0.mk (below_step q13_2 hb); clear BK433; clear BK434; clear HB; have BK433 := n0_; have BK434 := n1_; have HB := n2_; clear n0_ n1_ n2_; (try clear hb); (try clear hb2); (try clear hk); (try clear hi)))
   go_meet
   case rel => exact ⟨_, (true), q13_10, H', ⟨by first | omega | exact Nat.le_refl _⟩, ⟨by (with_reducible repeat (first | refine blk_drewN ?_ _ | refine blk_drew ?_ | refine blk_alloc ?_ _)); exact BK433.out⟩, ⟨by (with_reducible repeat (first | refine blk_drewN ?_ _ | refine blk_drew ?_ | refine blk_alloc ?_ _)); exact BK434.out⟩, ⟨by repeat (first | (with_reducible first | exact HB.out | apply below_alloc | apply pw_below_drewN | apply below_drew1 | refine below_set ?_ GE433.out | refine below_set ?_ GE434.out) | exact HB.out)⟩⟩
 case rest =>
  clear HC3
  try clear c1
  try clear p2
  try clear c3
  try clear c4
  try clear c7
  try clear c9
  try clear c13
  try clear hcz10_0
  try clear hcz10_1
  try clear hcz12_0
  try clear hcz12_1
  try clear hcz14_0
  try clear hcz14_1
  try clear hfz10_0
  try clear hfz10_1
  try clear hfz12_0
  try clear hfz12_1
  try clear hfz14_0
  try clear hfz14_1
  obtain ⟨kq, x18_2, rfl, HA, HJ2, BK433, BK434, HB⟩ := hcut
  cases kq with
  | zero => exact absurd HA.out (by simp [spec_DropObjects.j0])
  | succ kj2 =>
   have H := HA.out
   clear HA
   simp only [spec_DropObjects.j0] at H
   by_cases c16 : x18_2 = true
   ·
    subst c16
    have H1 : (some (0, ([] : List Int), false)) = some (r1, r2, r3) := by rw [if_pos rfl] at H; exact H
    clear H
    have H := H1
    clear H1
    simp only [Option.some.injEq, Prod.mk.injEq] at H
    obtain ⟨rfl, rfl, rfl⟩ := H
    have hnb17 := NB434_433.out
    have hnc17 := NB433_434.out
    have hcz18_0 : wc.cell? ⟨gb434, 0, none⟩ = some (.int .i64 0) := (blk_cell BK434.out 0).trans rfl
    have hcz18_1 : wc.cell? ⟨gb434, 1, none⟩ = some (.slice none 0 0) := (blk_cell BK434.out 1).trans rfl
    have hfz18_0 := blk_frozen BK434.out 0
    have hfz18_1 := blk_frozen BK434.out 1
    go_wp2
    refine bodyPost_ret (results_ct rfl _ _ gb434 27 #[.int .i64 0, .slice none 0 0] (0, 0) _ rfl (by (with_reducible repeat (first | refine blk_drewN ?_ _ | refine blk_drew ?_ | refine blk_alloc ?_ _)); refine blk_put (cs := #[.int .i64 0, .slice none 0 0]) ?_ 1 _ rfl; (with_reducible repeat (first | refine blk_drewN ?_ _ | refine blk_drew ?_ | refine blk_alloc ?_ _)); refine blk_put (cs := #[.int .i64 0, .slice none 0 0]) ?_ 0 _ rfl; (with_reducible repeat (first | refine blk_drewN ?_ _ | refine blk_drew ?_ | refine blk_alloc ?_ _)); exact BK434.out) Try.underlying27 rfl q13_12) rfl ?_
    exact ⟨_, by first | rfl | (simp [errW_none, errW_some] <;> rfl) | (simp [*, errW_none, errW_some] <;> rfl), by first | exact Kd.R_nil _ _ _ _ _ | exact Kd.N_nil _ _ _ _ _ | exact Kd.V_nil _ _ _ _ _ | exact Kd.Q_nil _ _ _ _ _ | exact Kd.S_nil _ _ _ _ _, by repeat (first | (with_reducible first | exact HB.out | apply below_alloc | apply pw_below_drewN | apply below_drew1 | refine below_set ?_ GE433.out | refine below_set ?_ GE434.out) | exact HB.out)⟩
   ·
    replace c16 := Bool.eq_false_iff.mpr c16
    subst c16
    have H1 : (spec_DropObjects.l0 kj2 a1 0 a0_0 l0_1 a0_0 ([] : List Int)) = some (r1, r2, r3) := q13_11
    clear H
    have H := H1
    clear H1
    have H' := Aside0.mk H
    clear H
    have hnb19 := NB433_434.out
    have hnc19 := NB434_433.out
    have hcz20_0 : wc.cell? ⟨gb433, 0, none⟩ = some (.int .i64 a0_0) := (blk_cell BK433.out 0).trans rfl
    have hcz20_1 : wc.cell? ⟨gb433, 1, none⟩ = some (.slice A0_1 l0_1.length c0_1) := (blk_cell BK433.out 1).trans rfl
    have hfz20_0 := blk_frozen BK433.out 0
    have hfz20_1 := blk_frozen BK433.out 1
    go_wp2_with (first | ((with_reducible refine gate_dst (N := 6) rfl ?_); (try (refine gate_guard (by rfl) ?_; dsimp only)); refine box_event ?hg (N := 6) ?hd (cs := #[.int .i64 0, .slice none 0 0]) (t := 27) ?hr ?_; (case hd => rfl); (case hg => rfl); (case hr => first | (go_simp; done) | (go_simp; rfl)); intro gb437 hg w21 hbox hb; have n0_ := Aside0.mk (blk_below (g := gb433) (o := .cells #[.int .i64 a0_0, .slice A0_1 l0_1.length c0_1] 27 (0, 0)) q13_7 hb); have n1_ := Aside0.mk (blk_below (g := gb434) (o := .cells #[.int .i64 0, .slice none 0 0] 27 (0, 0)) q13_8 hb); have n2_ := Aside0.mk (below_step q13_2 hb); have n3_ := Aside0.mk (hbox); have n4_ := Aside0.mk ((by rw [hg]; exact (below_size q13_2) : w.heap.size ≤ gb437)); have n5_ := Aside0.mk ((by rw [hg]; exact (below_size q13_2) : w.heap.size ≤ gb437)); have n6_ := Aside0.mk ((by rw [hg]; exact Nat.ne_of_lt (blk_lt (g := gb433) (o := .cells #[.int .i64 a0_0, .slice A0_1 l0_1.length c0_1] 27 (0, 0)) q13_7) : gb433 ≠ gb437)); have n7_ := Aside0.mk ((by rw [hg]; exact Nat.ne_of_gt (blk_lt (g := gb433) (o := .cells #[.int .i64 a0_0, .slice A0_1 l0_1.length c0_1] 27 (0, 0)) q13_7) : gb437 ≠ gb433)); have n8_ := Aside0.mk ((by rw [hg]; exact Nat.ne_of_lt (blk_lt (g := gb434) (o := .cells #[.int .i64 0, .slice none 0 0] 27 (0, 0)) q13_8) : gb434 ≠ gb437)); have n9_ := Aside0.mk ((by rw [hg]; exact Nat.ne_of_gt (blk_lt (g := gb434) (o := .cells #[.int .i64 0, .slice none 0 0] 27 (0, 0)) q13_8) : gb437 ≠ gb434)); clear BK433; clear BK434; clear HB; have BK433 := n0_; have BK434 := n1_; have HB := n2_; have BK437 := n3_; have GW437 := n4_; have GE437 := n5_; have NB433_437 := n6_; have NB437_433 := n7_; have NB434_437 := n8_; have NB437_434 := n9_; clear n0_ n1_ n2_ n3_ n4_ n5_ n6_ n7_ n8_ n9_; clear hb hbox hg; have hnb22 := NB437_433.out; have hnc22 := NB433_437.out; have hnb23 := NB437_434.out; have hnc23 := NB434_437.out; have hcz24_0 : w21.cell? ⟨gb437, 0, none⟩ = some (.int .i64 0) := (blk_cell BK437.out 0).trans rfl; have hcz24_1 : w21.cell? ⟨gb437, 1, none⟩ = some (.slice none 0 0) := (blk_cell BK437.out 1).trans rfl; have hfz24_0 := blk_frozen BK437.out 0; have hfz24_1 := blk_frozen BK437.out 1))
    go_loopg [7] kj2 (fun kq v7 w' => ∃ (x7_2 : Int) (x438001_2 : List Int) (u438001 : Value), v7 = .int .i64 x7_2 ∧ Aside0 (spec_DropObjects.l0 kq a1 x7_2 a0_0 l0_1 a0_0 x438001_2 = some (r1, r2, r3)) ∧ Aside0 (kq ≤ kj2) ∧ Aside0 (Kd.R (Kd.int .i64) 3 w' w.heap.size (fun _ => True) u438001 x438001_2) ∧ Aside0 (w'.heap[gb433]? = some (.cells #[.int .i64 a0_0, (.slice A0_1 l0_1.length c0_1)] 27 (0, 0))) ∧ Aside0 (w'.heap[gb434]? = some (.cells #[.int .i64 0, (.slice none 0 0)] 27 (0, 0))) ∧ Aside0 (w'.heap[gb437]? = some (.cells #[.int .i64 a0_0, u438001] 27 (0, 0))) ∧ Aside0 (Below w.heap.size w w'))
    case atStart => exact ⟨(0), (([] : List Int)), (.slice none 0 0), q13_10, H', ⟨Nat.le_refl _⟩, ⟨by first | exact Kd.R_nil _ _ _ _ _ | exact Kd.N_nil _ _ _ _ _ | exact Kd.V_nil _ _ _ _ _ | exact Kd.Q_nil _ _ _ _ _ | exact Kd.S_nil _ _ _ _ _⟩, ⟨by (with_reducible repeat (first | refine blk_drewN ?_ _ | refine blk_drew ?_ | refine blk_alloc ?_ _)); refine blk_far ?_ NB433_437.out _; (with_reducible repeat (first | refine blk_drewN ?_ _ | refine blk_drew ?_ | refine blk_alloc ?_ _)); refine blk_far ?_ NB433_437.out _; (with_reducible repeat (first | refine blk_drewN ?_ _ | refine blk_drew ?_ | refine blk_alloc ?_ _)); exact BK433.out⟩, ⟨by (with_reducible repeat (first | refine blk_drewN ?_ _ | refine blk_drew ?_ | refine blk_alloc ?_ _)); refine blk_far ?_ NB434_437.out _; (with_reducible repeat (first | refine blk_drewN ?_ _ | refine blk_drew ?_ | refine blk_alloc ?_ _)); refine blk_far ?_ NB434_437.out _; (with_reducible repeat (first | refine blk_drewN ?_ _ | refine blk_drew ?_ | refine blk_alloc ?_ _)); exact BK434.out⟩, ⟨by (with_reducible repeat (first | refine blk_drewN ?_ _ | refine blk_drew ?_ | refine blk_alloc ?_ _)); refine blk_put (cs := #[.int .i64 a0_0, .slice none 0 0]) ?_ 1 _ rfl; (with_reducible repeat (first | refine blk_drewN ?_ _ | refine blk_drew ?_ | refine blk_alloc ?_ _)); refine blk_put (cs := #[.int .i64 0, .slice none 0 0]) ?_ 0 _ rfl; (with_reducible repeat (first | refine blk_drewN ?_ _ | refine blk_drew ?_ | refine blk_alloc ?_ _)); exact BK437.out⟩, ⟨by repeat (first | (with_reducible first | exact HB.out | apply below_alloc | apply pw_below_drewN | apply below_drew1 | refine below_set ?_ GE433.out | refine below_set ?_ GE434.out | refine below_set ?_ GE437.out) | exact HB.out)⟩⟩
    case round =>
     clear H'
     try clear c1
     try clear c2
     try clear p2
     try clear c3
     try clear c4
     try clear c7
     try clear c9
     try clear c13
     try clear c16
     try clear c17
     try clear c19
     try clear c22
     try clear c23
     try clear hcz10_0
     try clear hcz10_1
     try clear hcz12_0
     try clear hcz12_1
     try clear hcz14_0
     try clear hcz14_1
     try clear hcz18_0
     try clear hcz18_1
     try clear hcz20_0
     try clear hcz20_1
     try clear hcz24_0
     try clear hcz24_1
     try clear hfz10_0
     try clear hfz10_1
     try clear hfz12_0
     try clear hfz12_1
     try clear hfz14_0
     try clear hfz14_1
     try clear hfz18_0
     try clear hfz18_1
     try clear hfz20_0
     try clear hfz20_1
     try clear hfz24_0
     try clear hfz24_1
     try clear p2
     obtain ⟨x7_2, x438001_2, u438001, rfl, HA, HK2, HO_438001, BK433, BK434, BK437, HB⟩ := hrel
     cases gk with
     | zero => exact absurd HA.out (by simp [spec_DropObjects.l0])
     | succ k2 =>
      have H := HA.out
      clear HA
      simp only [spec_DropObjects.l0] at H
      by_cases c25 : x7_2 < (l0_1.length : Int)
      ·
       rw [if_pos c25] at H
       have c25b0 : decide (x7_2 < (l0_1.length : Int)) = true := decide_eq_true c25
       clear c25
       replace H := Option.bind_eq_some_iff.mp H
       obtain ⟨t438, A260, H⟩ := H
       replace H : (if t438 = true then (spec_DropObjects.l0 k2 a1 (wrap64 (x7_2 + 1)) a0_0 l0_1 a0_0 x438001_2) else (if 0 ≤ x7_2 then (if x438001_2.length < 17592186044416 then (spec_DropObjects.l0 k2 a1 (wrap64 (x7_2 + 1)) a0_0 l0_1 a0_0 (x438001_2 ++ [rd l0_1 x7_2])) else (none)) else (none))) = some (r1, r2, r3) := H
       have A26 := Aside0.mk A260
       clear A260
       by_cases c27 : t438 = true
       ·
        subst c27
        have H1 : (spec_DropObjects.l0 k2 a1 (wrap64 (x7_2 + 1)) a0_0 l0_1 a0_0 x438001_2) = some (r1, r2, r3) := by rw [if_pos rfl] at H; exact H
        clear H
        have H := H1
        clear H1
        have H' := Aside0.mk H
        clear H
        have hnb28 := NB433_434.out
        have hnc28 := NB434_433.out
        have hnb29 := NB433_437.out
        have hnc29 := NB437_433.out
        have hcz30_0 : wr.cell? ⟨gb433, 0, none⟩ = some (.int .i64 a0_0) := (blk_cell BK433.out 0).trans rfl
        have hcz30_1 : wr.cell? ⟨gb433, 1, none⟩ = some (.slice A0_1 l0_1.length c0_1) := (blk_cell BK433.out 1).trans rfl
        have hfz30_0 := blk_frozen BK433.out 0
        have hfz30_1 := blk_frozen BK433.out 1
        go_wp2_with (first | ((with_reducible refine gate_callee (f := 70) rfl ?_); refine goesL_ (some 32) rfl rfl Try.func70 q13_12 rfl #[.int .i64 a1, .int .i64 x7_2] rfl q13_5 ?_; (with_reducible refine (spec_l2Has.calls a1 x7_2 true _ A26.out).mono ?_); rintro e w' ⟨rfl, ⟨nd, rfl⟩⟩; refine ⟨_, rfl, ?_⟩))
        go_roundg k2
        case measure => have := HJ2.out; have := HK2.out; omega
        case rel => exact ⟨(wrap64 (x7_2 + 1)), (x438001_2), (u438001), q13_10, H', ⟨by have := HJ2.out; have := HK2.out; omega⟩, ⟨by (with_reducible repeat (first | apply Kd.R_alloc | apply Kd.R_drewN | apply Kd.R_drew)); exact HO_438001.out⟩, ⟨by (with_reducible repeat (first | refine blk_drewN ?_ _ | refine blk_drew ?_ | refine blk_alloc ?_ _)); exact BK433.out⟩, ⟨by (with_reducible repeat (first | refine blk_drewN ?_ _ | refine blk_drew ?_ | refine blk_alloc ?_ _)); exact BK434.out⟩, ⟨by (with_reducible repeat (first | refine blk_drewN ?_ _ | refine blk_drew ?_ | refine blk_alloc ?_ _)); exact BK437.out⟩, ⟨by repeat (first | (with_reducible first | exact HB.out | apply below_alloc | apply pw_below_drewN | apply below_drew1 | refine below_set ?_ GE433.out | refine below_set ?_ GE434.out | refine below_set ?_ GE437.out) | exact HB.out)⟩⟩
       ·
        replace c27 := Bool.eq_false_iff.mpr c27
        subst c27
        have H1 : (if 0 ≤ x7_2 then (if x438001_2.length < 17592186044416 then (spec_DropObjects.l0 k2 a1 (wrap64 (x7_2 + 1)) a0_0 l0_1 a0_0 (x438001_2 ++ [rd l0_1 x7_2])) else (none)) else (none)) = some (r1, r2, r3) := q13_11
        clear H
        have H := H1
        clear H1
        by_cases c31 : 0 ≤ x7_2
        ·
         rw [if_pos c31] at H
         have c31b0 : decide (0 ≤ x7_2) = true := decide_eq_true c31
         clear c31
         by_cases c32 : x438001_2.length < 17592186044416
         ·
          rw [if_pos c32] at H
          have LMc32 := Aside0.mk c32
          clear c32
          obtain ⟨y440, hy440⟩ : ∃ y_ : List Int, y_ = (x438001_2 ++ [rd l0_1 x7_2]) := ⟨_, rfl⟩
          replace H : (spec_DropObjects.l0 k2 a1 (wrap64 (x7_2 + 1)) a0_0 l0_1 a0_0 y440) = some (r1, r2, r3) := by first | (rw [hy440]; with_reducible exact H) | (have H2_ := (Option.bind_some _ _).symm.trans H; rw [hy440]; with_reducible exact H2_) | (have H2_ := (Option.bind_some _ _).symm.trans H; with_reducible exact H2_) | with_reducible exact H | (rw [hy440]; exact H) | exact H
          have Ny440 := Aside0.mk hy440
          clear hy440
          have H' := Aside0.mk H
          clear H
          have hnb33 := NB433_434.out
          have hnc33 := NB434_433.out
          have hnb34 := NB433_437.out
          have hnc34 := NB437_433.out
          have hcz35_0 : wr.cell? ⟨gb433, 0, none⟩ = some (.int .i64 a0_0) := (blk_cell BK433.out 0).trans rfl
          have hcz35_1 : wr.cell? ⟨gb433, 1, none⟩ = some (.slice A0_1 l0_1.length c0_1) := (blk_cell BK433.out 1).trans rfl
          have hfz35_0 := blk_frozen BK433.out 0
          have hfz35_1 := blk_frozen BK433.out 1
          try go_wp2_with (first | ((with_reducible refine gate_callee (f := 70) rfl ?_); refine goesL_ (some 32) rfl rfl Try.func70 q13_12 rfl #[.int .i64 a1, .int .i64 x7_2] rfl q13_5 ?_; (with_reducible refine (spec_l2Has.calls a1 x7_2 false _ A26.out).mono ?_); rintro e w' ⟨rfl, ⟨nd, rfl⟩⟩; refine ⟨_, rfl, ?_⟩; (try (rw [drewN_self wr]; generalize hq_ : World.drewN wr _ = wr; have n0_ : Aside0 (Kd.R (Kd.int .i64) 3 wr w.heap.size (fun _ => True) u438001 x438001_2) := ⟨by rw [← hq_]; exact (by (with_reducible repeat (first | apply Kd.R_alloc | apply Kd.R_drewN | apply Kd.R_drew)); exact HO_438001.out)⟩; have n1_ : Aside0 (wr.heap[gb433]? = some (.cells #[.int .i64 a0_0, .slice A0_1 l0_1.length c0_1] 27 (0, 0))) := ⟨by rw [← hq_]; exact q13_7⟩; have n2_ : Aside0 (wr.heap[gb434]? = some (.cells #[.int .i64 0, .slice none 0 0] 27 (0, 0))) := ⟨by rw [← hq_]; exact q13_8⟩; have n3_ : Aside0 (wr.heap[gb437]? = some (.cells #[.int .i64 a0_0, u438001] 27 (0, 0))) := ⟨by rw [← hq_]; exact q13_9⟩; have n4_ : Aside0 (Below w.heap.size w wr) := ⟨by rw [← hq_]; exact q13_1⟩; clear HO_438001 BK433 BK434 BK437 HB hq_; have HO_438001 := n0_; have BK433 := n1_; have BK434 := n2_; have BK437 := n3_; have HB := n4_; clear n0_ n1_ n2_ n3_ n4_))))
          have n0_ := Aside0.mk (Kd.R_drew HO_438001.out)
          have n1_ := Aside0.mk (blk_drew BK433.out)
          have n2_ := Aside0.mk (blk_drew BK434.out)
          have n3_ := Aside0.mk (blk_drew BK437.out)
          have n4_ := Aside0.mk (below_drew1 HB.out)
          clear HO_438001
          clear BK433
          clear BK434
          clear BK437
          clear HB
          have HO_438001 := n0_
          have BK433 := n1_
          have BK434 := n2_
          have BK437 := n3_
          have HB := n4_
          clear n0_ n1_ n2_ n3_ n4_
          have p439 : 0 ≤ (x7_2 : Int) := of_decide_eq_true (by first | (with_reducible assumption) | assumption)
          have q439 : x7_2 < (l0_1.length : Int) := of_decide_eq_true (by first | (with_reducible assumption) | assumption)
          obtain ⟨ad439, e439, hx439_0⟩ := Kd.at_int HR0_1.out x7_2 p439 q439
          have hw439_0 := hx439_0
          cases e439
          replace hx439_0 := (HB.out.cell (World.block_lt_of_cell? w _ hx439_0)).trans hx439_0
          replace p439 := eq_true p439
          replace q439 := eq_true q439
          refine start_ (n := 11) (S := fun w' => w'.cell? ⟨gb437, 0, none⟩ = some (.int .i64 a0_0) ∧ w'.cell? ⟨gb437, 1, none⟩ = some (u438001) ∧ w'.cell? ⟨gb433, 0, none⟩ = some (.int .i64 a0_0) ∧ w'.cell? ⟨gb433, 1, none⟩ = some (.slice (some ad439) l0_1.length c0_1) ∧ w'.cell? (ad439.add (x7_2).toNat) = some (.int .i64 (rd l0_1 x7_2))) (ds := [10]) #[false, false, false, false, false, false, false, false, false, false, false] q13_12 rfl rfl ⟨(blk_cell BK437.out 0).trans rfl, (blk_cell BK437.out 1).trans rfl, (blk_cell BK433.out 0).trans rfl, (blk_cell BK433.out 1).trans rfl, ((HB.out.cell (World.block_lt_of_cell? w _ hw439_0)).trans hw439_0)⟩ (fun hHeld => ?_); refine with_tabW spec_DropObjects.tab8 spec_DropObjects.bits8 (fun HT_ HW_ => ?_)
          generalize wr.drew = w36 at HO_438001 BK433 BK434 BK437 HB hx439_0 hHeld ⊢
          refine pure_ (i := 0) (N := some 34) (v := ?_) (a' := ?_) #[true, false, false, false, false, false, false, false, false, false, false] rfl rfl (any_of HT_.out q13_12) (fun _ _ _ h => h) (Or.inl ⟨by rfl, ?_⟩) ?_ ?_
          rotate_left
          ·
           intro w'
           go_simp
           with_reducible rfl
          rotate_left
          ·
           exact put13_
          refine pure_ (i := 2) (N := some 36) (v := ?_) (a' := ?_) #[true, false, true, false, false, false, false, false, false, false, false] rfl rfl (any_of HT_.out q13_12) (fun _ _ _ h => h) (Or.inl ⟨by rfl, ?_⟩) ?_ ?_
          rotate_left
          ·
           intro w'
           go_simp
           with_reducible rfl
          rotate_left
          ·
           exact put13_
          refine pure_ (i := 4) (N := some 38) (v := ?_) (a' := ?_) #[true, false, true, false, true, false, false, false, false, false, false] rfl rfl (any_of HT_.out q13_12) (fun _ _ _ h => h) (Or.inl ⟨by rfl, ?_⟩) ?_ ?_
          rotate_left
          ·
           intro w'
           go_simp
           with_reducible rfl
          rotate_left
          ·
           exact put13_
          refine take_ (i := 1) (N := some 35) (v := ?_) (a' := ?_) #[true, true, true, false, true, false, false, false, false, false, false] rfl rfl (take_ofW HT_.out HW_.out q13_12) (fun _ _ _ h => h) (Or.inl ⟨by rfl, ?_⟩) hHeld ?_ ?_
          rotate_left
          ·
           rintro w' ⟨s0, s1, s2, s3, s4⟩
           go_simp
           with_reducible rfl
          rotate_left
          ·
           exact put13_
          refine take_ (i := 3) (N := some 37) (v := ?_) (a' := ?_) #[true, true, true, true, true, false, false, false, false, false, false] rfl rfl (take_ofW HT_.out HW_.out q13_12) (fun _ _ _ h => h) (Or.inl ⟨by rfl, ?_⟩) hHeld ?_ ?_
          rotate_left
          ·
           rintro w' ⟨s0, s1, s2, s3, s4⟩
           go_simp
           with_reducible rfl
          rotate_left
          ·
           exact put13_
          refine pure_ (i := 5) (N := some 39) (v := ?_) (a' := ?_) #[true, true, true, true, true, true, false, false, false, false, false] rfl rfl (any_of HT_.out q13_12) (fun _ _ _ h => h) (Or.inl ⟨by rfl, ?_⟩) ?_ ?_
          rotate_left
          ·
           intro w'
           go_simp
           with_reducible rfl
          rotate_left
          ·
           exact put13_
          refine take_ (i := 6) (N := some 40) (v := ?_) (a' := ?_) #[true, true, true, true, true, true, true, false, false, false, false] rfl rfl (take_ofW HT_.out HW_.out q13_12) (fun _ _ _ h => h) (Or.inl ⟨by rfl, ?_⟩) hHeld ?_ ?_
          rotate_left
          ·
           rintro w' ⟨s0, s1, s2, s3, s4⟩
           go_simp
           with_reducible rfl
          rotate_left
          ·
           exact put13_
          refine one_ (i := 7) (N := some 41) #[true, true, true, true, true, true, true, true, false, false, false] rfl rfl (one_of HT_.out q13_12) (by decide) (fun K hK => ?_)
          refine value_ (w1 := ?_) (v := ?_) (by rfl) rfl ?_ ?_
          rotate_left 2
          ·
           go_simp
           constructor
           ·
            rfl
           ·
            rfl
          refine hK.out _ _ ⟨(blk_cell (blk_alloc BK437.out _) 0).trans rfl, (blk_cell (blk_alloc BK437.out _) 1).trans rfl, (blk_cell (blk_alloc BK433.out _) 0).trans rfl, (blk_cell (blk_alloc BK433.out _) 1).trans rfl, (World.cell?_alloc_lt _ _ _ (World.block_lt_of_cell? _ _ (((HB.out.cell (World.block_lt_of_cell? w _ hw439_0)).trans hw439_0)))).trans (((HB.out.cell (World.block_lt_of_cell? w _ hw439_0)).trans hw439_0))⟩ (fun hHeld => ?_)
          clear hK K
          refine norm_ (a' := ?_) ?_ ?_
          rotate_left
          ·
           show Act.put _ (some 41) _ = _
           exact put13_
          refine one_ (i := 8) (N := some 42) #[true, true, true, true, true, true, true, true, true, false, false] rfl rfl (one_of HT_.out q13_12) (by decide) (fun K hK => ?_)
          refine Kd.R_append_step (Kd.int .i64) (w0 := w) w.heap.size (by rfl) (.tmp 35) (.tmp 41) 22 3 (.int .i64 0) 8 rfl Try.underlying22 info3 rfl (by decide) (by omega) u438001 x438001_2 (rd l0_1 x7_2) [.int .i64 (rd l0_1 x7_2)] (fun _ => True) (fun _ => False) rfl rfl ?aP (fun _ hk => hk.elim) ?aF ?aO ?aB ?aS ?aL ?_
          (case aP => exact rfl)
          (case aB => exact q13_1)
          (case aF => exact (fun _ _ => trivial))
          (case aO => exact (by (with_reducible repeat (first | apply Kd.R_alloc | apply Kd.R_drewN | apply Kd.R_drew)); exact HO_438001.out))
          (case aS => exact (below_size q13_1))
          (case aL => have := LMc32.out; omega)
          intro v441 w37 ho hb hg hat
          rw [← Ny440.out] at ho
          have n0_ := Aside0.mk (blk_grown (g := gb433) (o := .cells #[.int .i64 a0_0, .slice (some ad439) l0_1.length c0_1] 27 (0, 0)) q13_7 hg (Kd.R_ne HO_438001.out BK433.out (by decide)))
          have n1_ := Aside0.mk (blk_grown (g := gb434) (o := .cells #[.int .i64 0, .slice none 0 0] 27 (0, 0)) q13_8 hg (Kd.R_ne HO_438001.out BK434.out (by decide)))
          have n2_ := Aside0.mk (blk_grown (g := gb437) (o := .cells #[.int .i64 a0_0, u438001] 27 (0, 0)) q13_9 hg (Kd.R_ne HO_438001.out BK437.out (by decide)))
          have n3_ := Aside0.mk (hb)
          have n4_ := Aside0.mk (ho)
          clear BK433
          clear BK434
          clear BK437
          clear HB
          clear HO_438001
          have BK433 := n0_
          have BK434 := n1_
          have BK437 := n2_
          have HB := n3_
          have HO442 := n4_
          clear n0_ n1_ n2_ n3_ n4_
          clear ho hb hg hat
          obtain ⟨Ao38, co38, eo38⟩ := Kd.R_slice HO442.out
          (first | subst eo38 | (injection eo38 with f1_ f2_ f3_; have f4_ := f1_.symm; have f5_ := f3_.symm; clear f1_ f2_ f3_; subst f4_; subst f5_))
          refine hK.out _ _ ⟨(blk_cell BK437.out 0).trans rfl, (blk_cell BK437.out 1).trans rfl, (blk_cell BK433.out 0).trans rfl, (blk_cell BK433.out 1).trans rfl, ((HB.out.cell (World.block_lt_of_cell? w _ hw439_0)).trans hw439_0)⟩ (fun hHeld => ?_)
          clear hK K
          refine norm_ (a' := ?_) ?_ ?_
          rotate_left
          ·
           show Act.put _ (some 42) _ = _
           exact put13_
          refine pure_ (i := 9) (N := some 43) (v := ?_) (a' := ?_) #[true, true, true, true, true, true, true, true, true, true, false] rfl rfl (any_of HT_.out q13_12) (fun _ _ _ h => h) (Or.inl ⟨by rfl, ?_⟩) ?_ ?_
          rotate_left
          ·
           intro w'
           go_simp
           with_reducible rfl
          rotate_left
          ·
           exact put13_
          refine last_ (i := 10) (N := none) #[true, true, true, true, true, true, true, true, true, true, true] rfl rfl (one_of HT_.out q13_12) (by decide) (fun K hK => ?_)
          have hs39 : w37.cell? ⟨gb437, 1, none⟩ = some (u438001) := (blk_cell BK437.out 1).trans rfl
          have hfs39 := blk_frozen BK437.out 1
          have hns39_0 := NB433_437.out
          have hns39_1 := NB434_437.out
          have hms39_0 := NB437_433.out
          have hms39_1 := NB437_434.out
          refine skip_ (w1 := ?_) (by rfl) rfl ?_ ?_
          rotate_left
          ·
           go_simp
           rfl
          refine hK.out _ _ ?_
          clear hK K
          refine done_ (done_of HT_.out q13_12) ?_
          try go_wp2
          go_roundg k2
          case measure => have := HJ2.out; have := HK2.out; omega
          case rel => exact ⟨(wrap64 (x7_2 + 1)), (y440), (.slice Ao38 y440.length co38), q13_10, H', ⟨by have := HJ2.out; have := HK2.out; omega⟩, ⟨by (with_reducible repeat (first | apply Kd.R_alloc | apply Kd.R_drewN | apply Kd.R_drew)); exact Kd.R_mono (Kd.R_far (p := ⟨gb437, 1, none⟩) (Kd.R_types HO442.out BK437.out (by decide)) (fun _ hk => hk.2) (.slice Ao38 y440.length co38)) (fun _ hk => trivial)⟩, ⟨by (with_reducible repeat (first | refine blk_drewN ?_ _ | refine blk_drew ?_ | refine blk_alloc ?_ _)); refine blk_far ?_ NB433_437.out _; (with_reducible repeat (first | refine blk_drewN ?_ _ | refine blk_drew ?_ | refine blk_alloc ?_ _)); exact BK433.out⟩, ⟨by (with_reducible repeat (first | refine blk_drewN ?_ _ | refine blk_drew ?_ | refine blk_alloc ?_ _)); refine blk_far ?_ NB434_437.out _; (with_reducible repeat (first | refine blk_drewN ?_ _ | refine blk_drew ?_ | refine blk_alloc ?_ _)); exact BK434.out⟩, ⟨by (with_reducible repeat (first | refine blk_drewN ?_ _ | refine blk_drew ?_ | refine blk_alloc ?_ _)); refine blk_put (cs := #[.int .i64 a0_0, u438001]) ?_ 1 _ rfl; (with_reducible repeat (first | refine blk_drewN ?_ _ | refine blk_drew ?_ | refine blk_alloc ?_ _)); exact BK437.out⟩, ⟨by repeat (first | (with_reducible first | exact HB.out | apply below_alloc | apply pw_below_drewN | apply below_drew1 | refine below_set ?_ GE433.out | refine below_set ?_ GE434.out | refine below_set ?_ GE437.out) | exact HB.out)⟩⟩
         ·
          rw [if_neg c32] at H
          exact absurd H (by simp)
        ·
         rw [if_neg c31] at H
         exact absurd H (by simp)
      ·
       rw [if_neg c25] at H
       have c25b0 : decide (x7_2 < (l0_1.length : Int)) = false := decide_eq_false c25
       clear c25
       simp only [Option.some.injEq, Prod.mk.injEq] at H
       obtain ⟨rfl, rfl, rfl⟩ := H
       have hnb40 := NB433_434.out
       have hnc40 := NB434_433.out
       have hnb41 := NB433_437.out
       have hnc41 := NB437_433.out
       have hcz42_0 : wr.cell? ⟨gb433, 0, none⟩ = some (.int .i64 a0_0) := (blk_cell BK433.out 0).trans rfl
       have hcz42_1 : wr.cell? ⟨gb433, 1, none⟩ = some (.slice A0_1 l0_1.length c0_1) := (blk_cell BK433.out 1).trans rfl
       have hfz42_0 := blk_frozen BK433.out 0
       have hfz42_1 := blk_frozen BK433.out 1
       have hnb43 := NB437_434.out
       have hnc43 := NB434_437.out
       have hcz44_0 : wr.cell? ⟨gb437, 0, none⟩ = some (.int .i64 a0_0) := (blk_cell BK437.out 0).trans rfl
       have hcz44_1 : wr.cell? ⟨gb437, 1, none⟩ = some (u438001) := (blk_cell BK437.out 1).trans rfl
       have hfz44_0 := blk_frozen BK437.out 0
       have hfz44_1 := blk_frozen BK437.out 1
       have hcz45_0 : wr.cell? ⟨gb434, 0, none⟩ = some (.int .i64 0) := (blk_cell BK434.out 0).trans rfl
       have hcz45_1 : wr.cell? ⟨gb434, 1, none⟩ = some (.slice none 0 0) := (blk_cell BK434.out 1).trans rfl
       have hfz45_0 := blk_frozen BK434.out 0
       have hfz45_1 := blk_frozen BK434.out 1
       obtain ⟨Ao46, co46, eo46⟩ := Kd.R_slice HO_438001.out
       subst eo46
       go_wp2
       refine bodyPost_ret (results_ct rfl _ _ gb434 27 #[.int .i64 a0_0, .slice Ao46 x438001_2.length co46] (0, 0) _ rfl (by (with_reducible repeat (first | refine blk_drewN ?_ _ | refine blk_drew ?_ | refine blk_alloc ?_ _)); refine blk_put (cs := #[.int .i64 a0_0, .slice none 0 0]) ?_ 1 _ rfl; (with_reducible repeat (first | refine blk_drewN ?_ _ | refine blk_drew ?_ | refine blk_alloc ?_ _)); refine blk_put (cs := #[.int .i64 0, .slice none 0 0]) ?_ 0 _ rfl; (with_reducible repeat (first | refine blk_drewN ?_ _ | refine blk_drew ?_ | refine blk_alloc ?_ _)); exact BK434.out) Try.underlying27 rfl q13_12) rfl ?_
       exact ⟨_, by first | rfl | (simp [errW_none, errW_some] <;> rfl) | (simp [*, errW_none, errW_some] <;> rfl), by (with_reducible repeat (first | apply Kd.R_alloc | apply Kd.R_drewN | apply Kd.R_drew)); exact Kd.R_mono (Kd.R_far (p := ⟨gb434, 1, none⟩) (Kd.R_far (p := ⟨gb434, 0, none⟩) (Kd.R_types HO_438001.out BK434.out (by decide)) (fun _ hk => hk.2) (.int .i64 a0_0)) (fun _ hk => hk.2) (.slice Ao46 x438001_2.length co46)) (fun _ hk => trivial), by repeat (first | (with_reducible first | exact HB.out | apply below_alloc | apply pw_below_drewN | apply below_drew1 | refine below_set ?_ GE433.out | refine below_set ?_ GE434.out | refine below_set ?_ GE437.out) | exact HB.out)⟩
end Go.Proofs.Ytemhlblajnlogaa.Pr
